/- LAWS: rows of the call's own memory that are handed to a call for good: they become immuta -/
import Derived.Test.YtnjiadikeacfaaaGreatDoorAbsEvX
set_option linter.all false
namespace Go.Proofs.YtnjiadikeacfaaaGreatDoor
namespace Abs
variable {P:Program} {H:Hints} {Q:Cont} {M0:Nat->Prop}
def dB (K:Nat->Bool) (h:Heap):Heap:=h.mapIdx λi o=>if K i=true then .dead else o
def gr (K:Nat->Bool) (m:List (Option Nat)):List (Option Nat):=m.mapIdx λi μ=>if K i=true then none else μ
def Mem.kill (K:Nat->Bool) (S:Mem):Mem:=⟨gr K S.m,dB K S.h,S.w⟩
theorem oV(K)(h)(i):(dB K h)[i]?=(h[i]?).map λo=>if K i=true then .dead else o:=by
 unfold dB;rw[AH]
theorem vD(K)(m)(i):(gr K m)[i]?=(m[i]?).map λo=>if K i=true then none else o:=by
 unfold gr;rw[AH]
theorem np{K}{h}{i}(hk:K i=false):(dB K h)[i]?=h[i]?:=by
 rw[oV,hk];simp
theorem nq{K}{h}{i}{o}(hk:K i=true)(ho:h[i]?=some o):(dB K h)[i]?=some .dead:=by
 rw[oV,hk,ho];rfl
theorem pZ{K}{m}{i}(hk:K i=false):(gr K m).getD i none=m.getD i none:=by
 rw[cG,cG,vD,hk];simp
theorem vC{K}{m}{i b}(h:(gr K m)[i]?=some (some b)):m[i]?=some (some b)/\K i=false:=by
 rw[vD]at h
 cases hk:K i with
 |true=>
  rw[hk]at h
  cases hm:m[i]?<;>rw[hm]at h<;>cases h
 |false=>
  rw[hk]at h;refine⟨?_,rfl⟩
  cases hm:m[i]? with
  |none=>rw[hm]at h;cases h
  |some μ=>rw[hm]at h;simpa using h
theorem jj{K}{m}{b}(h:Own (gr K m) b):∃i,m[i]?=some (some b)/\K i=false:=by
 obtain⟨i,hi⟩:=dz h;exact⟨i,vC hi⟩
theorem lM{m}{i b:Nat}(h:m[i]?=some (some b)):Own m b:=aT h
theorem dx.kill{S}{K}{id ver}{X}(h:dx S id ver X):dx (S.kill K) id ver X:=by
 unfold dx at *
 have e1:(S.kill K).h[id]?=(dB K S.h)[id]?:=rfl;have e2:(S.kill K).m.getD id none=(gr K S.m).getD id none:=rfl;rw[e1,e2]
 cases hk:K id with
 |true=>
  left;rcases h with h|⟨sz,xs,h,_⟩
  .exact nq hk h
  .exact nq hk h
 |false=>
  rw[np hk,pZ hk];exact h
section
variable {M1:Nat->Prop} {S:Mem} {K:Nat->Bool} (hM:∀b,Avoid M1 (gr K S.m) b->Avoid M0 S.m b)
include hM
theorem cD.kill{v}{a}(h:cD M0 S v a):cD M1 (S.kill K) v a:=by
 cases a with
 |p q=>exact RepP.less (show RepP (Avoid M0 S.m) S.w v q from h) hM
 |ptr id ver i o=>exact⟨h.1,dx.kill h.2⟩
 |slice id ver off len=>exact⟨h.1,dx.kill (S:=S) h.2⟩
 |ref k id=>
  refine⟨h.1,?_⟩;have e1:(S.kill K).h[id]?=(dB K S.h)[id]?:=rfl;have e2:(S.kill K).m.getD id none=(gr K S.m).getD id none:=rfl;rw[e1,e2]
  cases hk:K id with
  |true=>
   left;rcases h.2 with h|⟨⟨o,h,_⟩,_⟩
   .exact nq hk h
   .exact nq hk h
  |false=>
   rw[np hk,pZ hk]
   exact h.2
 |undef=>exact trivial
 |agg cs=>exact h.elim
 |func fn f c=>exact h.elim
 |tuple vs=>exact h.elim
theorem bL.kill{v}{a}(h:bL M0 S v a):bL M1 (S.kill K) v a:=by
 cases a with
 |func fn f c=>
  obtain⟨F,C,rfl,h1,h2⟩:=h
  exact⟨F,C,rfl,h1.imp λv c hc hr=>cD.kill hM hr,h2.imp λv c hc hr=>cD.kill hM hr⟩
 |p q=>exact cD.kill (M0:=M0) (a:=.p q) hM h
 |ptr id ver i o=>exact cD.kill (M0:=M0) (a:=.ptr id ver i o) hM h
 |slice id ver off len=>exact cD.kill (M0:=M0) (a:=.slice id ver off len) hM h
 |ref k id=>exact cD.kill (M0:=M0) (a:=.ref k id) hM h
 |undef=>exact trivial
 |agg cs=>exact h.elim
 |tuple vs=>exact h.elim
theorem dF.kill{v}{a}(h:dF M0 S v a):dF M1 (S.kill K) v a:=by
 cases a with
 |agg cs=>
  obtain⟨C,rfl,h1,h2⟩:=h
  exact⟨C,rfl,h1,h2.imp λv c hc hr=>bL.kill hM hr⟩
 |p q=>exact bL.kill (M0:=M0) (a:=.p q) hM h
 |ptr id ver i o=>exact bL.kill (M0:=M0) (a:=.ptr id ver i o) hM h
 |slice id ver off len=>exact bL.kill (M0:=M0) (a:=.slice id ver off len) hM h
 |ref k id=>exact bL.kill (M0:=M0) (a:=.ref k id) hM h
 |func fn f c=>exact bL.kill (M0:=M0) (a:=.func fn f c) hM h
 |undef=>exact trivial
 |tuple vs=>exact h.elim
theorem Rep.kill{v}{a}(h:Rep M0 S v a):Rep M1 (S.kill K) v a:=by
 cases a with
 |tuple cs=>
  obtain⟨C,rfl,h2⟩:=h
  exact⟨C,rfl,h2.imp λv c hc hr=>dF.kill hM hr⟩
 |p q=>exact dF.kill (M0:=M0) (a:=.p q) hM h
 |ptr id ver i o=>exact dF.kill (M0:=M0) (a:=.ptr id ver i o) hM h
 |slice id ver off len=>exact dF.kill (M0:=M0) (a:=.slice id ver off len) hM h
 |ref k id=>exact dF.kill (M0:=M0) (a:=.ref k id) hM h
 |func fn f c=>exact dF.kill (M0:=M0) (a:=.func fn f c) hM h
 |agg cs=>exact dF.kill (M0:=M0) (a:=.agg cs) hM h
 |undef=>exact trivial
theorem HOk.kill(hS:HOk P M0 S)(h1:∀b,M1 b->b<S.w.heap.size/\¬Own (gr K S.m) b):HOk P M1 (S.kill K) where
 len:=by simp[Mem.kill,gr,dB,hS.len]
 lt:=λb h=>let ⟨i,hi,_⟩:=jj h;hS.lt b (lM hi)
 m0:=h1
 gl:=hS.gl.fr (λ_ _ _=>rfl) λb hb=>let ⟨i,hi,_⟩:=jj hb;.inl (lM hi)
 inj:=λi j b hi hj=>hS.inj i j b (vC hi).1 (vC hj).1
 obj:=λid o hid=>by
  have e2:(S.kill K).m.getD id none=(gr K S.m).getD id none:=rfl;have hid':(dB K S.h)[id]?=some o:=hid
  cases hk:K id with
  |true=>
   rw[oV,hk]at hid'
   cases hm:S.h[id]? with
   |none=>rw[hm]at hid';cases hid'
   |some o'=>rw[hm]at hid';cases hid';exact trivial
  |false=>
   rw[np hk]at hid';rw[e2,pZ hk];have:=hS.obj id o hid'
   cases o with
   |row sz xs=>
    rcases this with h|⟨b,T,C,h1,h2,h3,h4⟩
    .exact .inl h
    .refine .inr ⟨b,T,C,h1,h2,h3,λi x hx=>?_⟩;obtain⟨cs,h5,h6,h7⟩:=h4 i x hx
     exact⟨cs,h5,h6,λj c hc=>⟨(h7 j c hc).1,bL.kill hM (h7 j c hc).2⟩⟩
   |loop n tmps ps assign body st pend=>
    obtain⟨b,r,h1,h2,h3,h4,h5⟩:=this
    exact⟨b,r,h1,h2,h3,λt=>Rep.kill hM (h4 t),h5⟩
   |strIter s p=>exact this
   |mp es=>
    obtain⟨b,C,clk,h1,h2,h3⟩:=this
    exact⟨b,C,clk,h1,h2,h3.mono λv a=>bL.kill hM⟩
   |memo f=>
    obtain⟨hg,es,hf,b,C,clk,h1,h2,h3⟩:=this
    exact⟨hg,es,hf,b,C,clk,h1,h2,h3.mono λv a=>bL.kill hM⟩
   |dblock=>exact this
   |bld T el x=>
    obtain⟨b,p,v,h1,h2,h3,h4,h5,h6⟩:=this
    exact⟨b,p,v,h1,h2,h3,h4,cD.kill hM h5,h6⟩
   |dead=>exact trivial
end
theorem Bg(S:Mem)(K:Nat->Bool)(base:Nat):Ev base S (S.kill K) where
 fr:=Fr.refl _ _
 sub:=λb hb=>let ⟨i,hi,_⟩:=jj (K:=K) hb;.inl (lM hi)
 obj:=λid o _ ho=>by
  cases hk:K id with
  |true=>exact⟨.dead,nq hk ho,.inl rfl⟩
  |false=>
   refine⟨o,(np hk).trans ho,?_⟩;have e2:(S.kill K).m.getD id none=S.m.getD id none:=pZ hk;rw[e2];exact ObjEv.refl _ _
theorem yD{S}(hS:HOk P M0 S)(K):HOk P M0 (S.kill K):=
 HOk.kill (M0:=M0) (M1:=M0) (λ_ hb=>hb.imp id λh=>let ⟨_,hi,_⟩:=jj h;lM hi) hS
  (λb hb=>⟨(hS.m0 b hb).1,λh=>(hS.m0 b hb).2 (let ⟨_,hi,_⟩:=jj h;lM hi)⟩)
theorem yE{S}(hS:HOk P M0 S)(K){v}{a}{q}(hr:Rep M0 S v a)(hf:xC (dB (λi=>!K i) S.h) a=some q):RepP (Avoid M0 (gr K S.m)) S.w v q:=by
 have hM:∀b,Avoid (Avoid M0 (gr K S.m)) (gr (λi=>!K i) S.m) b->Avoid M0 S.m b:=by
  rintro b ((hb|hb)|hb)
  .exact .inl hb
  .obtain⟨_,hi,_⟩:=jj hb;exact .inr (lM hi)
  .obtain⟨_,hi,_⟩:=jj hb;exact .inr (lM hi)
 have hk:=HOk.kill hM hS (λb hb=>by
  rcases hb with hb|hb
  .exact⟨(hS.m0 b hb).1,λh=>(hS.m0 b hb).2 (let ⟨_,hi,_⟩:=jj h;lM hi)⟩
  .obtain⟨i,hi,hki⟩:=jj hb;refine⟨hS.lt b (lM hi),λh=>?_⟩;obtain⟨j,hj,hkj⟩:=jj h;have:=hS.inj i j b hi hj;subst this;rw[hki]at hkj
   cases hkj)
 exact qW (S:=S.kill λi=>!K i) hk (Rep.kill hM hr) hf
def zB (id:Nat):AV->Prop
 |.p _=>True
 |.slice i _ _ _=>i=id
 |.ptr i _ _ _=>i=id
 |_=>False
theorem E2(id)(h):dB (λi=>i==id) h=h.set id .dead:=by
 apply qu;intro i;rw[oV,IG];by_cases hi:i=id
 .subst hi
  cases hh:h[i]? with
  |none=>
   have:¬i<h.length:=by simpa using hh
   simp[this]
  |some o=>
   have:i<h.length:=(ax.1 hh).1;simp[this]
 .have:(i==id)=false:=by simpa using hi
  rw[this,if_neg (Ne.symm hi)];simp
theorem Lm(id):(∀a,a∈([]:List AV)->zB id a)=True:=by simp
theorem Jm(id)(x)(l):(∀a,a∈x::l->zB id a)=(zB id x/\∀a,a∈l->zB id a):=by simp
def fu:PV->Bool
 |.bool _=>true
 |.int _ _=>true
 |.str _=>true
 |.agg cs=>flatL cs
 |.tuple cs=>flatL cs
 |.nilslice=>true
 |.nilptr=>true
 |.nilfunc=>true
 |.niliface=>true
 |.any=>true
 |.iface _ v=>fu v
 |_=>false
where flatL:List PV->Bool
 |[]=>true
 |c::l=>fu c&&flatL l
theorem Be:∀(q),fu q=true->Flat q
 |.bool b,_=>.bool b
 |.int k n,_=>.int k n
 |.str s,_=>.str s
 |.agg cs,h=>by
  rw[fu]at h
  exact .agg (key cs h)
 |.nilslice,_=>.nilslice
 |.nilptr,_=>.nilptr
 |.nilfunc,_=>.nilfunc
 |.niliface,_=>.niliface
 |.any,_=>.any
 |.tuple cs,h=>by
  rw[fu]at h
  exact .tuple (key cs h)
 |.slice _ _ _,h=>by simp[fu]at h
 |.ptr _ _ _ _,h=>by simp[fu]at h
 |.func _ _ _,h=>by simp[fu]at h
 |.iface _ v,h=>.iface (Be v (by rw[fu]at h;exact h))
where key:∀(cs:List PV),fu.flatL cs=true->∀(i:Nat) (c:PV),cs[i]?=some c->Flat c
 |[],_=>Flat.nil
 |c::l,h=>by
  rw[fu.flatL,dD]at h;exact Flat.cons (Be c h.1) (key l h.2)
def gA:Nat->Heap->AV->Option PV
 |_,_,.p v=>if fu v=true then some v else none
 |0,_,_=>none
 |n+1,h,.slice id ver off len=>(lR (gA n h) ver h[id]?).map λq=>.slice q.1 ((q.2.take (off+len)).drop off) false
 |n+1,h,.agg cs=>(aS (gA n h) cs).map .agg
 |n+1,h,.tuple cs=>(aS (gA n h) cs).map .tuple
 |_,_,_=>none
theorem pb(n)(h)(v):gA n h (.p v)=if fu v=true then some v else none:=by cases n<;>rfl
theorem uk:∀(n) (h) (a) (q),gA n h a=some q->ci n h a=some q:=by
 intro n
 induction n with
 |zero=>
  intro h a q e
  cases a with
  |p v=>rw[pb]at e;split at e<;>cases e;rw[ef]
  |_=>cases e
 |succ n ih=>
  intro h a q e
  cases a with
  |p v=>rw[pb]at e;split at e<;>cases e;rw[ef]
  |slice id ver off len=>
   unfold gA at e;unfold ci;simp only[cd]at e |-;obtain⟨r,h1,h2⟩:=e;obtain⟨xs,h3,h4,h5⟩:=o9 h1;refine⟨r,?_,h2⟩
   rw[h3,lR,if_pos h4,fy (ih h) h5];rfl
  |agg cs=>
   unfold gA at e;unfold ci;simp only[cd]at e |-;obtain⟨r,h1,h2⟩:=e
   exact⟨r,fy (ih h) h1,h2⟩
  |tuple cs=>
   unfold gA at e;unfold ci;simp only[cd]at e |-;obtain⟨r,h1,h2⟩:=e
   exact⟨r,fy (ih h) h1,h2⟩
  |_=>cases e
theorem JN{n}{h}{a}{q}{cs}(e:gA n h a=some q)(hc:a.cells=some cs) :
  ∀(j:Nat) (c),q.cells[j]?=some c->∃x m,cs[j]?=some x/\m<=n/\gA m h x=some c:=by
 intro j c hj
 cases a with
 |p v=>
  rw[pb]at e;split at e
  .rename_i hf;cases e;have hcs:cs=q.cells.map .p:=by
    cases q with
    |tuple l=>cases hc
    |_=>cases hc;rfl
   refine⟨.p c,n,by rw[hcs,cz,hj];rfl,bi _,?_⟩;rw[pb];have:fu c=true:=by
    cases q with
    |agg l=>
     have key:∀(l:List PV),fu.flatL l=true->∀x,x∈l->fu x=true:=by
      intro l
      induction l with
      |nil=>intro _ x hx;cases hx
      |cons y l ih=>
       intro hl x hx;rw[fu.flatL,dD]at hl;rcases ce.1 hx with rfl|hx
       .exact hl.1
       .exact ih hl.2 x hx
     rw[fu]at hf
     exact key l hf c (aT hj)
    |_=>
     have hj':[_][j]?=some c:=hj
     cases j with
     |zero=>cases hj';exact hf
     |succ j=>cases hj'
   rw[if_pos this]
  .cases e
 |slice id ver off len=>
  cases hc
  cases n with
  |zero=>cases e
  |succ n=>
   have hq:q.cells=[q]:=xr (mK (a:=.slice id ver off len) rfl (uk _ _ _ _ e));rw[hq]at hj
   cases j with
   |zero=>cases hj;exact⟨_,n+1,rfl,bi _,e⟩
   |succ j=>cases hj
 |agg l=>
  cases hc
  cases n with
  |zero=>cases e
  |succ n=>
   unfold gA at e;simp only[cd]at e;obtain⟨r,h1,rfl⟩:=e;obtain⟨_,h3⟩:=e9 h1;obtain⟨x,h4,h5⟩:=h3 j c hj
   exact⟨x,n,h4,by omega,h5⟩
 |tuple l=>cases hc
 |undef=>cases n<;>cases e
 |ptr _ _ _ _=>cases n<;>cases e
 |func _ _ _=>cases n<;>cases e
 |ref _ _=>cases n<;>cases e
theorem Q6{S}(hS:HOk P M0 S){M}(hM:∀b,Own S.m b->¬M b):∀(n) (v) (a) (q),Rep M0 S v a->gA n S.h a=some q->RepP M S.w v q:=by
 intro n
 induction n using Nat.strongRecOn with
 |_ n ih=>
  intro v a q hr e
  cases a with
  |p v'=>
   rw[pb]at e;split at e
   .rename_i hf;cases e;exact(Be _ hf).rep (show RepP (Avoid M0 S.m) S.w v q from hr)
   .cases e
  |slice id ver off len=>
   cases n with
   |zero=>cases e
   |succ n=>
    unfold gA at e;simp only[cd]at e;obtain⟨⟨sz,l⟩,h1,rfl⟩:=e;obtain⟨xs,hid,hv,hl⟩:=o9 h1;dsimp only at hid hl |-;have hnil:len=0->(l.take (off+len)).drop off=[]:=by
     intro e;subst e;apply ot;simp
    rcases cR hr.2 hid hv with⟨h0,_,_,a,cap,rfl⟩|⟨b,cap,T',n',hm,rfl,⟨h1,h2⟩,_,_⟩|⟨_,rfl,h0⟩
    .rw[hnil h0];exact .empty (by simp)
    .obtain⟨C,T,hb,hsize,hel⟩:=fk hS hid hm;obtain⟨hxl,hfr⟩:=e9 hl;have helem:∀(i:Nat) (q:PV),l[i]?=some q->(q.cells.length=sz/\∀c,c∈q.cells->c.isCell=true)/\∀(j:Nat) (c:PV),q.cells[j]?=some c->RepP M S.w (C.getD (i*sz+j) undef) c:=by
      intro i q hi;obtain⟨a,h0,hfa⟩:=hfr i q hi;obtain⟨cs,g1,g2,g3⟩:=hel i a h0;obtain⟨g4,g5⟩:=Ab (uk _ _ _ _ hfa) g1;have g6:=JN hfa g1;refine⟨⟨by omega,λc hc=>?_⟩,λj c hj=>?_⟩
      .obtain⟨j,hj⟩:=dz hc;obtain⟨x,m,k1,_,k3⟩:=g5 j c hj;exact mK (g3 j x k1).1 k3
      .obtain⟨x,m,k1,k2,k3⟩:=g6 j c hj;exact ih m (by omega) _ x c (qJ (g3 j x k1).1 (g3 j x k1).2) k3
     have hMb:¬M b:=hM b (lM (cu hm))
     have:=tN (M:=M) (w:=S.w) (b:=b) (off:=0) (sz:=sz) (l:=off) (r:=off+len) (xs:=l) (λk=>C.getD k undef) (by omega) (by omega)
      (λx hx=>let ⟨i,hi⟩:=dz hx;(helem i x hi).1) (λ_=>hMb) (λk hk=>by rw[d5];exact jb hb k (by rw[<-hxl]at hk;omega)) (λi j x c hx hj=>(helem i x hx).2 j c hj) (cap:=cap) (full:=false) (by omega) (by simp)
     simpa using this
    .rw[hnil h0];exact .empty (by simp)
  |agg cs=>
   cases n with
   |zero=>cases e
   |succ n=>
    obtain⟨C,rfl,hc,h1,h2⟩:=hr;have e0:=uk _ _ _ _ e;unfold gA at e;simp only[cd]at e;obtain⟨l,hl,rfl⟩:=e;obtain⟨h3,h4⟩:=e9 hl;refine .agg (by omega) (λc hcl=>?_) λi c hi=>?_
    .obtain⟨i,hi⟩:=dz hcl;obtain⟨a,h5,h6⟩:=h4 i c hi;exact mK (hc a (aT h5)) (uk _ _ _ _ h6)
    .obtain⟨a,h5,h6⟩:=h4 i c hi
     exact ih n (by omega) _ a c (qJ (hc a (aT h5)) (h2 i a h5)) h6
  |tuple cs=>
   cases n with
   |zero=>cases e
   |succ n=>
    obtain⟨C,rfl,h1,h2⟩:=hr;unfold gA at e;simp only[cd]at e;obtain⟨l,hl,rfl⟩:=e;obtain⟨h3,h4⟩:=e9 hl;refine .tuple (by omega) λi c hi=>?_;obtain⟨a,h5,h6⟩:=h4 i c hi
    exact ih n (by omega) _ a c (nQ (h2 i a h5)) h6
  |undef=>cases n<;>cases e
  |ptr _ _ _ _=>cases n<;>cases e
  |func _ _ _=>cases n<;>cases e
  |ref _ _=>cases n<;>cases e
def gZ (P:Program) (f:FuncId) (pargs:List PV) (v:PV):Prop:=
 ∀(M0:Nat->Prop) (w:World) (cargs:Array Value),(∀b,M0 b->b<w.heap.size)->uQ P w->qg M0 w cargs pargs ->
  (∀w',(callFunc f cargs).run P w'=.ok (.enter f cargs) w') /\
  Calls P f cargs w λe w'=>∃v',e=.returned v'/\RepP (λb=>b<w.heap.size) w' v' v/\Fr [] w w'
theorem gZ.pure{f}{pargs}{v}(h:gZ P f pargs v):af P f pargs v:=by
 intro M0 w cargs hM hg ha;obtain⟨h1,h2⟩:=h M0 w cargs hM hg ha;refine⟨h1,h2.mono λe w' he=>?_⟩;obtain⟨v',rfl,hv,hfr⟩:=he;exact⟨v',rfl,RepP.less hv hM,hfr⟩
def DE (h:Heap):AEnd->Option PV
 |.ret a=>gA 8 h a
 |_=>none
theorem Ew(hD:dK P){H}{f}{fn}{c}{pargs}{v}{rs}{n}(hf:P.funcs[f]?=some fn)(hb:fn.body=some c)(hrs:fn.results.toList=rs)(hn:fn.ntmps=n)(hok:cv H fn=true)
  (hlen:pargs.length<=n) (hw:wp P H c (iB P rs 0 (λ_ r h=>DE h r=some v)) (aW n .no (pargs.map .p) [])):gZ P f pargs v:=by
 intro M0 w cargs hM hg ha;have ha':dE (Rep M0 ⟨[],[],w⟩) cargs (pargs.map .p):=by
  refine⟨by simpa using ha.1,λi c hc=>?_⟩;simp only[cz,cd]at hc;obtain⟨q,hq,rfl⟩:=hc;exact aF ((ha.2 i q hq).mono (λ_ _ _=>rfl) (λb hb=>by
   rcases hb with hb|hb
   .exact .inl hb
   .simp[Own]at hb))
 have:=jm hD (h:=[]) (R:=λr h=>DE h r=some v) hf hb hrs hn hok (by simpa using hlen) hw M0 [] w cargs (qn hM hg) ha';refine⟨this.1,this.2.mono λe w' h=>?_⟩;obtain⟨r,h',m',hR,hev,hk,hend⟩:=h;have hown:∀b,Own m' b->¬b<w.heap.size:=λb hb=>by
  rcases hev.sub b hb with h|h
  .simp[Own]at h
  .exact Nat.not_lt.2 h
 cases e with
 |returned v'=>
  cases r with
  |panic v=>cases hR
  |ret a=>exact⟨v',rfl,Q6 (S:=⟨m',h',w'⟩) hk hown 8 v' a v hend hR,hev.fr⟩
 |panicked ch=>
  cases r with
  |panic v=>cases hR
  |ret a=>exact hend.elim
 |outgrown=>exact hend.elim
theorem Cs{f}{args}{pargs}{v}{h}(hc:gZ P f pargs v)(ha:pE h args=some pargs):aB P f args h (λr h'=>r=.ret (.p v)/\h'=h):=by
 intro M0 m w cargs hS hargs;obtain⟨hl,hg⟩:=Bd ha;have hpa:qg M0 w cargs pargs:=by
  refine⟨by rw[hargs.1,hl],λi c hi=>?_⟩;obtain⟨a,h1,h2⟩:=hg i c hi;exact qW (S:=⟨m,h,w⟩) hS (hargs.2 i a h1) h2
 obtain⟨h1,h2⟩:=hc M0 w cargs (λb hb=>(hS.m0 b hb).1) hS.gl.1 hpa;refine⟨h1,h2.mono λe w' hh=>?_⟩;obtain⟨v',rfl,hr,hfr⟩:=hh;obtain⟨hk,hev⟩:=rV hS hfr;refine⟨.ret (.p v),_,m,⟨rfl,rfl⟩,hev,hk,?_⟩;exact RepP.less hr λb hb=>by
  rcases hb with hb|hb
  .exact(hS.m0 b hb).1
  .exact hS.lt b hb
theorem wn{ops}{rest}{dst}{A}{f}{args}{pargs}{v}(hc:gZ P f pargs v)(ha:pE A.h args=some pargs)
  (h:@WO ⟨P,H,ops,rest,Q⟩ (A.put dst (.p v) A.h)):@WF ⟨P,H,ops,rest,Q,dst⟩ A f args:=ct (Cs hc ha) h
theorem Sm{ops}{rest}{o}{hs h0}{A}{f}{args}{pargs}{v}(hc:gZ P f pargs v)(ha:pE h0 args=some pargs)
  (h:@WD ⟨P,H,ops,rest,Q⟩ hs (A.put o.dst (.p v) A.h)):@Ga ⟨P,H,ops,rest,Q,o⟩ hs h0 A (.call f args):=
 ⟨.p v,λ_ hs=>Cs hc (Fc hs ha),h⟩
theorem la{α:Type}(n)(h)(f)(hf:∀x,fu (f x)=true):∀l:List α,aS (gA n h) (l.map λx=>.p (f x))=some (l.map f)
 |[]=>rfl
 |x::r=>by rw[bD,aS,la n h f hf r,pb,if_pos (hf x)];rfl
theorem qX{α:Type}(n)(h)(f)(hf:∀x,fu (f x)=true)(m):∀l:List α,aS (gA n h) ((l.map λx=>.p (f x))++m)=(aS (gA n h) m).map (l.map f++·)
 |[]=>by cases hm:aS (gA n h) m<;>simp[hm]
 |x::r=>by
  rw[bD,eW,aS,qX n h f hf m r,pb,if_pos (hf x)];cases aS (gA n h) m<;>rfl
theorem De{α:Type}(n)(h)(f)(hf:∀x,fu (f x)=true)(l:List α):aS (gA n h) ((l.map f).map .p)=some (l.map f):=by
 rw[th];exact la n h f hf l
theorem Df{α:Type}(n)(h)(f)(hf:∀x,fu (f x)=true)(m)(l:List α):aS (gA n h) ((l.map f).map .p++m)=(aS (gA n h) m).map (l.map f++·):=by
 rw[th];exact qX n h f hf m l
attribute [go_sem] De Df fu fu.flatL gA pb DE la qX
theorem Cr{S}(hS:HOk P M0 S){id:Nat}{o}(ho:S.h[id]?=some o):bf S.h.length o:=by
 have:=hS.obj id o ho
 cases o with
 |row sz xs=>
  intro x hx;rcases this with⟨_,rfl⟩|⟨b,T,C,h1,h2,h3,h4⟩
  .cases hx
  .obtain⟨i,hi⟩:=dz hx;obtain⟨cs,h5,h6,h7⟩:=h4 i x hi;have one:∀c,cs=[c]->eU S.h.length c:=λc hc=>by
    subst hc;exact eY (h7 0 c rfl).2
   cases x with
   |p q=>exact trivial
   |agg l=>
    cases h5;intro c hc;obtain⟨j,hj⟩:=dz hc
    exact eY (h7 j c hj).2
   |tuple l=>cases h5
   |undef=>cases h5
   |ptr _ _ _ _=>cases h5;exact one _ rfl
   |slice _ _ _ _=>cases h5;exact one _ rfl
   |ref _ _=>cases h5;exact one _ rfl
   |func _ _ _=>cases h5;exact one _ rfl
 |loop n tmps ps assign body st pend=>
  obtain⟨b,r,h1,h2,h3,h4,h5⟩:=this
  exact λt=>B4 (h4 t)
 |strIter s p=>exact trivial
 |mp es=>exact trivial
 |memo f=>exact trivial
 |dblock=>exact trivial
 |bld T el x=>
  obtain⟨b,p,v,h1,h2,h3,h4,h5,h6⟩:=this
  exact gp h5
 |dead=>exact trivial
theorem xj(hD:dK P){H}{f}{fn}{c}{args}{h}{v}{rs}{n}(hf:P.funcs[f]?=some fn)(hb:fn.body=some c)(hrs:fn.results.toList=rs)(hn:fn.ntmps=n)(hok:cv H fn=true)
  (hlen:args.length<=n) (hw:wp P H c (iB P rs h.length (λ_ r h'=>∃t,h'=h++t/\pF (List.replicate h.length .dead++t) r=some v)) (aW n .no args h)):aB P f args h (λr h'=>r=.ret (.p v)/\h'=h):=by
 intro M0 m w cargs hS hargs;have:=jm hD (R:=λr h'=>∃t,h'=h++t/\pF (List.replicate h.length .dead++t) r=some v) hf hb hrs hn hok hlen hw M0 m w cargs hS hargs;refine⟨this.1,this.2.mono λe w' hh=>?_⟩;obtain⟨r,h',m',⟨t,rfl,hR⟩,hev,hk,hend⟩:=hh
 cases e with
 |returned v'=>
  cases r with
  |panic v=>cases hR
  |ret a=>
   have hkeep:∀(id:Nat) (o:AObj),id<h.length->(h++t)[id]?=some o->bf h.length o:=λid o hid ho=>by
    rw[aZ hid]at ho;exact Cr (S:=⟨m,h,w⟩) hS ho
   have hcut:=Bc (S:=⟨m',h++t,w'⟩) hk (l:=h.length) hkeep;have ecut:Mem.cut ⟨m',h++t,w'⟩ h.length=⟨m'.take h.length,h,w'⟩:=by simp[Mem.cut]
   rw[ecut]at hcut;have e1:dB (λi=>!decide (h.length<=i)) (h++t)=List.replicate h.length .dead++t:=by
    apply qu;intro i;rw[oV];by_cases hi:i<h.length
    .rw[aZ hi,aZ (by simpa using hi),bA hi];have:decide (h.length<=i)=false:=by simpa using hi
     simp[this,hi]
    .rw[cm (by omega),cm (by simpa using Nf hi)];have:decide (h.length<=i)=true:=by simpa using hi
     simp[this]
   have hrep:=yE (S:=⟨m',h++t,w'⟩) hk (λi=>decide (h.length<=i)) (v:=v') (a:=a) (q:=v) hend (by rw[e1];exact hR);refine⟨.ret (.p v),h,m'.take h.length,⟨rfl,rfl⟩,⟨hev.fr,λb hb=>hev.sub b (sb hb),λid o hid ho=>?_⟩,hcut,?_⟩
   .have hid':id<h.length:=hid;obtain⟨o',h1,h2⟩:=hev.obj id o hid ho;refine⟨o',?_,?_⟩
    .have h1':(h++t)[id]?=some o':=h1;rw[aZ hid']at h1';exact h1'
    .have:(m'.take h.length).getD id none=m'.getD id none:=by
      rw[cG,cG,jp,if_pos hid']
     show ObjEv _ _ ((m'.take h.length).getD id none) _;rw[this];exact h2
   .exact RepP.less hrep λb hb=>by
     rcases hb with hb|hb
     .exact .inl hb
     .obtain⟨i,hi⟩:=dz hb;rw[jp]at hi;split at hi
      .rename_i hil;refine .inr (aT (i:=i) ?_);rw[vD,hi];have:decide (h.length<=i)=false:=by simpa using hil
       simp[this]
      .cases hi
 |panicked ch=>
  cases r with
  |panic v=>cases hR
  |ret a=>exact hend.elim
 |outgrown=>exact hend.elim
theorem Ej(n)(t)(j):(List.replicate n AObj.dead++t)[n+j]?=t[j]?:=by rw[cm (by simp)];simp
theorem K5(n)(t):(List.replicate n AObj.dead++t)[n]?=t[0]?:=Ej n t 0
attribute [go_sem] Ej K5
section
variable {α τ:Type}
theorem Pl{x}{A}(live)(l)(hl:l.length<1000000000)(Inv:List α->List α->τ->Prop)(M)(hp)(t0)(hi:Inv [] l t0)
  (hh:A.h=hp [] t0) (h0:∀p,p∈bT A.tmps live (M [] t0)->A.tmps p.1=p.2)
  (hnil:∀t,Inv l [] t->@W ⟨P,H,x,dT (fT P (nP l Inv) (λs=>e8 A live (g7 M s) (g7 hp s)) (λs=>s.2.1.length) (l,[],t)) Q⟩
   {n:=A.n,bs:=A.bs,rc:=A.rc,tmps:=cK (bT A.tmps live (M l t)),h:=hp l t,df:=A.df })
  (hcons:∀done y r t,l=done++y::r->Inv done (y::r) t->l[done.length]?=some y->((done.length:Int)<(l.length:Int))->IntKind.i64.wrap ((done.length:Int)+1)=(((done++[y]).length:Nat):Int) ->
   @W ⟨P,H,x,dT (fT P (nP l Inv) (λs=>e8 A live (g7 M s) (g7 hp s)) (λs=>s.2.1.length) (done,y::r,t)) Q⟩
    {n:=A.n,bs:=A.bs,rc:=A.rc,tmps:=cK (bT A.tmps live (M done t)),h:=hp done t,df:=A.df }):@W ⟨P,H,.loop x,Q⟩ A:=by
 refine eO live (nP l Inv) (λs=>s.2.1.length) (g7 M) (g7 hp) ([],l,t0) ⟨rfl,hi⟩ hh h0 ?_
 rintro⟨done,rest,t⟩ ⟨e1,e2⟩
 dsimp only at e1 e2
 cases rest with
 |nil=>
  rw[bw]at e1;subst e1
  exact hnil t e2
 |cons y r=>
  have hlen:done.length<l.length:=by rw[e1];simp
  have hg:l[done.length]?=some y:=by rw[e1];simp
  refine hcons done y r t e1 e2 hg (by omega) ?_;have e:((done.length:Int)+1)=(((done++[y]).length:Nat):Int):=by simp
  rw[e];exact IntWalk.i64_in _ ⟨by omega,by simp<;>omega⟩
theorem Po{l}{Inv:List α->List α->τ->Prop}{M}{hp}{live}{done r}{y}{t}{A B}
  (e1:l=done++y::r) (t') (hinv:Inv (done++[y]) r t') (hh:B.h=hp (done++[y]) t') (h3:∀p,p∈bT A.tmps live (M (done++[y]) t')->B.tmps p.1=p.2)
  (hn:B.n=A.n:=by rfl) (hb:B.bs=A.bs:=by rfl) (hr:B.rc=A.rc:=by rfl) (hd:B.df=A.df:=by rfl) :
  @WQ ⟨dT (fT P (nP l Inv) (λs=>e8 A live (g7 M s) (g7 hp s)) (λs=>s.2.1.length) (done,y::r,t)) Q⟩ .normal B:=
 ⟨(done++[y],r,t'),⟨by simp[e1],hinv⟩,by simp,tA hn hb hr hd hh h3⟩
end
attribute [go_sem] zB Lm Jm
end Abs
end Go.Proofs.YtnjiadikeacfaaaGreatDoor
namespace Go.Proofs.YtnjiadikeacfaaaGreatDoor
namespace Abs
variable {P:Program}
inductive PL:PV->PV->Prop
 |refl (v:PV):PL v v
 |nil (sz:Nat):PL .nilslice (.slice sz [] false)
 |agg {a b:List PV} (hl:a.length=b.length) (hc:∀c,c∈b->c.isCell=true) (h:∀(i:Nat) (q c:PV),a[i]?=some q->b[i]?=some c->PL q c):PL (.agg a) (.agg b)
 |slice {sz:Nat} {xs ys:List PV} {full:Bool} (hl:xs.length=ys.length) (hc:∀y,y∈ys->y.cells.length=sz/\∀c,c∈y.cells->c.isCell=true) (h:∀(i:Nat) (q c:PV),xs[i]?=some q->ys[i]?=some c->PL q c) :
   PL (.slice sz xs full) (.slice sz ys false)
 |tuple {a b:List PV} (hl:a.length=b.length) (h:∀(i:Nat) (q c:PV),a[i]?=some q->b[i]?=some c->PL q c):PL (.tuple a) (.tuple b)
theorem PL.cells{q v}(h:PL q v):q.cells.length=v.cells.length/\∀(j:Nat) (c d),q.cells[j]?=some c->v.cells[j]?=some d->PL c d:=by
 cases h with
 |refl v=>exact⟨rfl,λj c d h1 h2=>by rw[h1]at h2;cases h2;exact .refl _⟩
 |nil sz=>exact⟨rfl,λj c d h1 h2=>by cases j<;>cases h1;cases h2;exact .nil sz⟩
 |agg hl hc h=>exact⟨hl,h⟩
 |slice hl hc h=>exact⟨rfl,λj c d h1 h2=>by cases j<;>cases h1;cases h2;exact .slice hl hc h⟩
 |tuple hl h=>exact⟨rfl,λj c d h1 h2=>by cases j<;>cases h1;cases h2;exact .tuple hl h⟩
theorem PL.single{q y}(h:PL q y)(hq:∀l,q≠.agg l):y.cells=[y]:=by
 cases h with
 |refl v=>cases q with
  |agg l=>exact absurd rfl (hq l)
  |_=>rfl
 |nil _=>rfl
 |agg _ _ _=>exact absurd rfl (hq _)
 |slice _ _ _=>rfl
 |tuple _ _=>rfl
theorem PL.rep{M}{w}{q v}(h:PL q v):∀{u},RepP M w u q->RepP M w u v:=by
 induction h with
 |refl v=>intro u hr;exact hr
 |nil sz=>intro u hr;cases hr;exact .empty (by simp)
 |@agg a b hl hc h ih=>
  intro u hr
  cases hr with
  |agg hn hs hr=>
   refine .agg (by omega) hc λi c hi=>?_;have hlt:i<a.length:=by have:=(ax.1 hi).1;omega
   exact ih i _ c (bA hlt) hi (hr i _ (bA hlt))
 |@tuple a b hl h ih=>
  intro u hr
  cases hr with
  |tuple hn hr=>
   refine .tuple (by omega) λi c hi=>?_;have hlt:i<a.length:=by have:=(ax.1 hi).1;omega
   exact ih i _ c (bA hlt) hi (hr i _ (bA hlt))
 |@slice sz xs ys full hl hc h ih=>
  intro u hr
  cases hr with
  |empty hf=>
   have:ys=[]:=tv.1 hl.symm;subst this
   exact .empty (by simp)
  |slice f hlen hcap hfull hsz hm hcell hrep=>
   rw[hl]at hm hcell;refine .slice f (by omega) hcap (by simp) hc hm hcell λi j y c hy hj=>?_;have hlt:i<xs.length:=by have:=(ax.1 hy).1;omega
   have hx:xs[i]?=some xs[i]:=bA hlt;have hp:=h i _ y hx hy;obtain⟨g1,g2⟩:=hp.cells;have hsx:=hsz _ (y4 hlt);have hsy:=hc y (aT hy)
   cases hxx:xs[i] with
   |agg a=>
    rw[hxx]at hp hsx hx;obtain⟨b,rfl⟩:∃b,y=.agg b:=by
     generalize hq:PV.agg a=q at hp
     cases hp with
     |refl v=>exact⟨a,hq.symm⟩
     |agg _ _ _=>exact⟨_,rfl⟩
     |nil _=>cases hq
     |slice _ _ _=>cases hq
     |tuple _ _=>cases hq
    have hv:RepP M w (.agg (Array.ofFn λk:Fin sz=>f (i*sz+k.val))) (.agg a):=by
     refine .agg (by have:=hsx.1;simp[PV.cells]at this;simp[this]) hsx.2 λk c hk=>?_;have hk':k<sz:=by have:=(ax.1 hk).1;have:=hsx.1;simp[PV.cells]at this;omega
     have:=hrep i k (.agg a) c hx hk;simpa[hk']using this
    have hv2:=ih i _ _ hx hy hv
    cases hv2 with
    |agg hn hs hr2=>
     have hk':j<sz:=by have:=(ax.1 hj).1;have:=hsy.1;omega
     have:=hr2 j c hj
     simpa[hk']using this
   |_=>
    have hyc:y.cells=[y]:=hp.single λl=>by rw[hxx];simp
    have hxc:xs[i].cells=[xs[i]]:=by rw[hxx];rfl
    rw[hyc]at hj
    cases j with
    |zero=>
     cases hj
     exact ih i _ _ hx hy (hrep i 0 _ _ hx (by rw[hxc];rfl))
    |succ j=>cases hj
theorem af.lessD{f}{args}{q v}(hc:af P f args q)(h:PL q v):af P f args v:=by
 intro M0 w cargs hM hg ha;obtain⟨h1,h2⟩:=hc M0 w cargs hM hg ha;refine⟨h1,h2.mono λe w' he=>?_⟩;obtain⟨v',rfl,hv,hfr⟩:=he;exact⟨v',rfl,h.rep hv,hfr⟩
def AF:List PV->List PV->Prop
 |[],[]=>True
 |q::a,c::b=>PL q c/\AF a b
 |_,_=>False
theorem AF.get:∀{a b},AF a b->a.length=b.length/\∀(i:Nat) (q c),a[i]?=some q->b[i]?=some c->PL q c
 |[],[],_=>⟨rfl,by simp⟩
 |q::a,c::b,h=>by
  obtain⟨h1,h2⟩:=AF.get h.2;refine⟨by simp[h1],λi x y hx hy=>?_⟩
  cases i with
  |zero=>cases hx;cases hy;exact h.1
  |succ i=>exact h2 i x y (by simpa using hx) (by simpa using hy)
 |[],_::_,h=>h.elim
 |_::_,[],h=>h.elim
def fG (l:List PV):Bool:=l.all PV.isCell
def TQ (sz:Nat) (l:List PV):Bool:=l.all λy=>y.cells.length==sz&&y.cells.all PV.isCell
theorem PL.aggL{a b}(hc:fG b=true)(h:AF a b):PL (.agg a) (.agg b):=.agg h.get.1 (λc hcb=>kK.1 hc c hcb) h.get.2
theorem PL.sliceL{sz}{xs ys}{full}(hc:TQ sz ys=true)(h:AF xs ys):PL (.slice sz xs full) (.slice sz ys false):=
 .slice h.get.1 (λy hy=>by
  have:=kK.1 hc y hy;simp at this
  exact⟨this.1,λc hc=>this.2 c hc⟩) h.get.2
theorem PL.tupleL{a b}(h:AF a b):PL (.tuple a) (.tuple b):=.tuple h.get.1 h.get.2
end Abs
end Go.Proofs.YtnjiadikeacfaaaGreatDoor
