/- LAWS: rows of the call's own memory that are handed to a call for good: they become immuta -/
import Derived.Test.YtmndpldajflenaaGreatDoorAbsEvX
set_option linter.all false
namespace Go.Proofs.YtmndpldajflenaaGreatDoor
namespace Abs
variable {P:Program} {H:Hints} {Q:Cont} {M0:Nat->Prop}
def cO (K:Nat->Bool) (h:Heap):Heap:=h.mapIdx λi o=>if K i=true then .dead else o
def dD (K:Nat->Bool) (m:List (Option Nat)):List (Option Nat):=m.mapIdx λi μ=>if K i=true then none else μ
def Mem.kill (K:Nat->Bool) (S:Mem):Mem:=⟨dD K S.m,cO K S.h,S.w⟩
theorem sr(K)(h)(i):(cO K h)[i]?=(h[i]?).map λo=>if K i=true then .dead else o:=by
 unfold cO;rw[ua]
theorem xX(K)(m)(i):(dD K m)[i]?=(m[i]?).map λo=>if K i=true then none else o:=by
 unfold dD;rw[ua]
theorem lh{K}{h}{i}(hk:K i=false):(cO K h)[i]?=h[i]?:=by
 rw[sr,hk];simp
theorem li{K}{h}{i}{o}(hk:K i=true)(ho:h[i]?=some o):(cO K h)[i]?=some .dead:=by
 rw[sr,hk,ho];rfl
theorem lg{K}{m}{i}(hk:K i=false):(dD K m).getD i none=m.getD i none:=by
 rw[bB,bB,xX,hk];simp
theorem so{K}{m}{i b}(h:(dD K m)[i]?=some (some b)):m[i]?=some (some b)/\K i=false:=by
 rw[xX]at h
 cases hk:K i with
 |true=>
  rw[hk]at h
  cases hm:m[i]?<;>rw[hm]at h<;>cases h
 |false=>
  rw[hk]at h;refine⟨?_,rfl⟩
  cases hm:m[i]? with
  |none=>rw[hm]at h;cases h
  |some μ=>rw[hm]at h;simpa using h
theorem g7{K}{m}{b}(h:Own (dD K m) b):∃i,m[i]?=some (some b)/\K i=false:=by
 obtain⟨i,hi⟩:=eL h;exact⟨i,so hi⟩
theorem jX{m}{i b:Nat}(h:m[i]?=some (some b)):Own m b:=aV h
theorem b8.kill{S}{K}{id ver}{X}(h:b8 S id ver X):b8 (S.kill K) id ver X:=by
 unfold b8 at *
 have e1:(S.kill K).h[id]?=(cO K S.h)[id]?:=rfl;have e2:(S.kill K).m.getD id none=(dD K S.m).getD id none:=rfl;rw[e1,e2]
 cases hk:K id with
 |true=>
  left;rcases h with h|⟨sz,xs,h,_⟩
  .exact li hk h
  .exact li hk h
 |false=>
  rw[lh hk,lg hk];exact h
section
variable {M1:Nat->Prop} {S:Mem} {K:Nat->Bool} (hM:∀b,Avoid M1 (dD K S.m) b->Avoid M0 S.m b)
include hM
theorem bp.kill{v}{a}(h:bp M0 S v a):bp M1 (S.kill K) v a:=by
 cases a with
 |p q=>exact RepP.less (show RepP (Avoid M0 S.m) S.w v q from h) hM
 |ptr id ver i o=>exact⟨h.1,b8.kill h.2⟩
 |iptr it id=>exact⟨h.1,b8.kill h.2⟩
 |arr id ver i o n=>exact⟨h.1,b8.kill h.2⟩
 |slice id ver off len=>exact⟨h.1,b8.kill (S:=S) h.2⟩
 |ref k id=>
  refine⟨h.1,?_⟩;have e1:(S.kill K).h[id]?=(cO K S.h)[id]?:=rfl;have e2:(S.kill K).m.getD id none=(dD K S.m).getD id none:=rfl;rw[e1,e2]
  cases hk:K id with
  |true=>
   left;rcases h.2 with h|⟨⟨o,h,_⟩,_⟩
   .exact li hk h
   .exact li hk h
  |false=>
   rw[lh hk,lg hk]
   exact h.2
 |undef=>exact trivial
 |agg cs=>exact h.elim
 |func fn f c=>exact h.elim
 |tuple vs=>exact h.elim
theorem aY.kill{v}{a}(h:aY M0 S v a):aY M1 (S.kill K) v a:=by
 cases a with
 |func fn f c=>
  obtain⟨F,C,rfl,h1,h2⟩:=h
  exact⟨F,C,rfl,h1.imp λv c hc hr=>bp.kill hM hr,h2.imp λv c hc hr=>bp.kill hM hr⟩
 |p q=>exact bp.kill (M0:=M0) (a:=.p q) hM h
 |ptr id ver i o=>exact bp.kill (M0:=M0) (a:=.ptr id ver i o) hM h
 |iptr it id=>exact bp.kill (M0:=M0) (a:=.iptr it id) hM h
 |arr id ver i o n=>exact bp.kill (M0:=M0) (a:=.arr id ver i o n) hM h
 |slice id ver off len=>exact bp.kill (M0:=M0) (a:=.slice id ver off len) hM h
 |ref k id=>exact bp.kill (M0:=M0) (a:=.ref k id) hM h
 |undef=>exact trivial
 |agg cs=>exact h.elim
 |tuple vs=>exact h.elim
theorem cc.kill{v}{a}(h:cc M0 S v a):cc M1 (S.kill K) v a:=by
 cases a with
 |agg cs=>
  obtain⟨C,rfl,h1,h2⟩:=h
  exact⟨C,rfl,h1,h2.imp λv c hc hr=>aY.kill hM hr⟩
 |p q=>exact aY.kill (M0:=M0) (a:=.p q) hM h
 |ptr id ver i o=>exact aY.kill (M0:=M0) (a:=.ptr id ver i o) hM h
 |iptr it id=>exact aY.kill (M0:=M0) (a:=.iptr it id) hM h
 |arr id ver i o n=>exact aY.kill (M0:=M0) (a:=.arr id ver i o n) hM h
 |slice id ver off len=>exact aY.kill (M0:=M0) (a:=.slice id ver off len) hM h
 |ref k id=>exact aY.kill (M0:=M0) (a:=.ref k id) hM h
 |func fn f c=>exact aY.kill (M0:=M0) (a:=.func fn f c) hM h
 |undef=>exact trivial
 |tuple vs=>exact h.elim
theorem Rep.kill{v}{a}(h:Rep M0 S v a):Rep M1 (S.kill K) v a:=by
 cases a with
 |tuple cs=>
  obtain⟨C,rfl,h2⟩:=h
  exact⟨C,rfl,h2.imp λv c hc hr=>cc.kill hM hr⟩
 |p q=>exact cc.kill (M0:=M0) (a:=.p q) hM h
 |ptr id ver i o=>exact cc.kill (M0:=M0) (a:=.ptr id ver i o) hM h
 |iptr it id=>exact cc.kill (M0:=M0) (a:=.iptr it id) hM h
 |arr id ver i o n=>exact cc.kill (M0:=M0) (a:=.arr id ver i o n) hM h
 |slice id ver off len=>exact cc.kill (M0:=M0) (a:=.slice id ver off len) hM h
 |ref k id=>exact cc.kill (M0:=M0) (a:=.ref k id) hM h
 |func fn f c=>exact cc.kill (M0:=M0) (a:=.func fn f c) hM h
 |agg cs=>exact cc.kill (M0:=M0) (a:=.agg cs) hM h
 |undef=>exact trivial
theorem HOk.kill(hS:HOk P M0 S)(h1:∀b,M1 b->b<S.w.heap.size/\¬Own (dD K S.m) b):HOk P M1 (S.kill K) where
 len:=by simp[Mem.kill,dD,cO,hS.len]
 lt:=λb h=>let ⟨i,hi,_⟩:=g7 h;hS.lt b (jX hi)
 m0:=h1
 gl:=hS.gl.fr (λ_ _ _=>rfl) λb hb=>let ⟨i,hi,_⟩:=g7 hb;.inl (jX hi)
 inj:=λi j b hi hj=>hS.inj i j b (so hi).1 (so hj).1
 obj:=λid o hid=>by
  have e2:(S.kill K).m.getD id none=(dD K S.m).getD id none:=rfl;have hid':(cO K S.h)[id]?=some o:=hid
  cases hk:K id with
  |true=>
   rw[sr,hk]at hid'
   cases hm:S.h[id]? with
   |none=>rw[hm]at hid';cases hid'
   |some o'=>rw[hm]at hid';cases hid';exact trivial
  |false=>
   rw[lh hk]at hid';rw[e2,lg hk];have:=hS.obj id o hid'
   cases o with
   |row sz xs=>
    rcases this with h|⟨b,T,C,h1,h2,h3,h4⟩
    .exact .inl h
    .refine .inr ⟨b,T,C,h1,h2,h3,λi x hx=>?_⟩;obtain⟨cs,h5,h6,h7⟩:=h4 i x hx
     exact⟨cs,h5,h6,λj c hc=>⟨(h7 j c hc).1,aY.kill hM (h7 j c hc).2⟩⟩
   |loop n tmps ps assign body st pend=>
    obtain⟨b,r,h1,h2,h3,h4,h5⟩:=this
    exact⟨b,r,h1,h2,h3,λt=>Rep.kill hM (h4 t),h5⟩
   |strIter s p=>exact this
   |mp es=>
    obtain⟨b,C,clk,h1,h2,h3⟩:=this
    exact⟨b,C,clk,h1,h2,h3.mono λv a=>aY.kill hM⟩
   |memo f=>
    obtain⟨hg,es,hf,b,C,clk,h1,h2,h3⟩:=this
    exact⟨hg,es,hf,b,C,clk,h1,h2,h3.mono λv a=>aY.kill hM⟩
   |dblock=>exact this
   |bld T el x=>
    obtain⟨b,p,v,h1,h2,h3,h4,h5,h6⟩:=this
    exact⟨b,p,v,h1,h2,h3,h4,bp.kill hM h5,h6⟩
   |dead=>exact trivial
end
theorem Dl(S:Mem)(K:Nat->Bool)(base:Nat):Ev base S (S.kill K) where
 fr:=Fr.refl _ _
 sub:=λb hb=>let ⟨i,hi,_⟩:=g7 (K:=K) hb;.inl (jX hi)
 obj:=λid o _ ho=>by
  cases hk:K id with
  |true=>exact⟨.dead,li hk ho,.inl rfl⟩
  |false=>
   refine⟨o,(lh hk).trans ho,?_⟩;have e2:(S.kill K).m.getD id none=S.m.getD id none:=lg hk;rw[e2];exact ObjEv.refl _ _
theorem AR{S}(hS:HOk P M0 S)(K):HOk P M0 (S.kill K):=
 HOk.kill (M0:=M0) (M1:=M0) (λ_ hb=>hb.imp id λh=>let ⟨_,hi,_⟩:=g7 h;jX hi) hS
  (λb hb=>⟨(hS.m0 b hb).1,λh=>(hS.m0 b hb).2 (let ⟨_,hi,_⟩:=g7 h;jX hi)⟩)
theorem uA{S}(hS:HOk P M0 S)(K){v}{a}{q}(hr:Rep M0 S v a)(hf:oK (cO (λi=>!K i) S.h) a=some q):RepP (Avoid M0 (dD K S.m)) S.w v q:=by
 have hM:∀b,Avoid (Avoid M0 (dD K S.m)) (dD (λi=>!K i) S.m) b->Avoid M0 S.m b:=by
  rintro b ((hb|hb)|hb)
  .exact .inl hb
  .obtain⟨_,hi,_⟩:=g7 hb;exact .inr (jX hi)
  .obtain⟨_,hi,_⟩:=g7 hb;exact .inr (jX hi)
 have hk:=HOk.kill hM hS (λb hb=>by
  rcases hb with hb|hb
  .exact⟨(hS.m0 b hb).1,λh=>(hS.m0 b hb).2 (let ⟨_,hi,_⟩:=g7 h;jX hi)⟩
  .obtain⟨i,hi,hki⟩:=g7 hb;refine⟨hS.lt b (jX hi),λh=>?_⟩;obtain⟨j,hj,hkj⟩:=g7 h;have:=hS.inj i j b hi hj;subst this;rw[hki]at hkj
   cases hkj)
 exact sE (S:=S.kill λi=>!K i) hk (Rep.kill hM hr) hf
def vd (id:Nat):AV->Prop
 |.p _=>True
 |.slice i _ _ _=>i=id
 |.ptr i _ _ _=>i=id
 |_=>False
theorem F2(id):(∀a,a∈([]:List AV)->vd id a)=True:=by simp
theorem D7(id)(x)(l):(∀a,a∈x::l->vd id a)=(vd id x/\∀a,a∈l->vd id a):=by simp
def dY:PV->Bool
 |.bool _=>true
 |.int _ _=>true
 |.str _=>true
 |.agg cs=>flatL cs
 |.tuple cs=>flatL cs
 |.nilslice=>true
 |.nilptr=>true
 |.nilfunc=>true
 |.niliface=>true
 |.any=>true
 |.iface _ v=>dY v
 |_=>false
where flatL:List PV->Bool
 |[]=>true
 |c::l=>dY c&&flatL l
theorem tv:∀(q),dY q=true->Flat q
 |.bool b,_=>.bool b
 |.int k n,_=>.int k n
 |.str s,_=>.str s
 |.agg cs,h=>by
  rw[dY]at h
  exact .agg (key cs h)
 |.nilslice,_=>.nilslice
 |.nilptr,_=>.nilptr
 |.nilfunc,_=>.nilfunc
 |.niliface,_=>.niliface
 |.any,_=>.any
 |.tuple cs,h=>by
  rw[dY]at h
  exact .tuple (key cs h)
 |.slice _ _ _,h=>by simp[dY]at h
 |.ptr _ _ _ _,h=>by simp[dY]at h
 |.func _ _ _,h=>by simp[dY]at h
 |.iface _ v,h=>.iface (tv v (by rw[dY]at h;exact h))
where key:∀(cs:List PV),dY.flatL cs=true->∀(i:Nat) (c:PV),cs[i]?=some c->Flat c
 |[],_=>Flat.nil
 |c::l,h=>by
  rw[dY.flatL,bY]at h;exact Flat.cons (tv c h.1) (key l h.2)
def eW:Nat->Heap->AV->Option PV
 |_,_,.p v=>if dY v=true then some v else none
 |0,_,_=>none
 |n+1,h,.slice id ver off len=>(jr (eW n h) ver h[id]?).map λq=>.slice q.1 ((q.2.take (off+len)).drop off) false
 |n+1,h,.agg cs=>(aM (eW n h) cs).map .agg
 |n+1,h,.tuple cs=>(aM (eW n h) cs).map .tuple
 |_,_,_=>none
theorem mw(n)(h)(v):eW n h (.p v)=if dY v=true then some v else none:=by cases n<;>rfl
theorem q8:∀(n) (h) (a) (q),eW n h a=some q->bH n h a=some q:=by
 intro n
 induction n with
 |zero=>
  intro h a q e
  cases a with
  |p v=>rw[mw]at e;split at e<;>cases e;rw[jZ]
  |_=>cases e
 |succ n ih=>
  intro h a q e
  cases a with
  |p v=>rw[mw]at e;split at e<;>cases e;rw[jZ]
  |slice id ver off len=>
   unfold eW at e;unfold bH;simp only[bx]at e |-;obtain⟨r,h1,h2⟩:=e;obtain⟨xs,h3,h4,h5⟩:=kH h1;refine⟨r,?_,h2⟩
   rw[h3,jr,if_pos h4,ea (ih h) h5];rfl
  |agg cs=>
   unfold eW at e;unfold bH;simp only[bx]at e |-;obtain⟨r,h1,h2⟩:=e
   exact⟨r,ea (ih h) h1,h2⟩
  |tuple cs=>
   unfold eW at e;unfold bH;simp only[bx]at e |-;obtain⟨r,h1,h2⟩:=e
   exact⟨r,ea (ih h) h1,h2⟩
  |_=>cases e
theorem Et{n}{h}{a}{q}{cs}(e:eW n h a=some q)(hc:a.cells=some cs) :
  ∀(j:Nat) (c),q.cells[j]?=some c->∃x m,cs[j]?=some x/\m<=n/\eW m h x=some c:=by
 intro j c hj
 cases a with
 |p v=>
  rw[mw]at e;split at e
  .rename_i hf;cases e;have hcs:cs=q.cells.map .p:=by
    cases q with
    |tuple l=>cases hc
    |_=>cases hc;rfl
   refine⟨.p c,n,by rw[hcs,bU,hj];rfl,aJ _,?_⟩;rw[mw];have:dY c=true:=by
    cases q with
    |agg l=>
     have key:∀(l:List PV),dY.flatL l=true->∀x,x∈l->dY x=true:=by
      intro l
      induction l with
      |nil=>intro _ x hx;cases hx
      |cons y l ih=>
       intro hl x hx;rw[dY.flatL,bY]at hl;rcases dQ.1 hx with rfl|hx
       .exact hl.1
       .exact ih hl.2 x hx
     rw[dY]at hf
     exact key l hf c (aV hj)
    |_=>
     have hj':[_][j]?=some c:=hj
     cases j with
     |zero=>cases hj';exact hf
     |succ j=>cases hj'
   rw[if_pos this]
  .cases e
 |slice id ver off len=>
  cases hc
  cases n with
  |zero=>cases e
  |succ n=>
   have hq:q.cells=[q]:=lZ (kI (a:=.slice id ver off len) rfl (q8 _ _ _ _ e));rw[hq]at hj
   cases j with
   |zero=>cases hj;exact⟨_,n+1,rfl,aJ _,e⟩
   |succ j=>cases hj
 |agg l=>
  cases hc
  cases n with
  |zero=>cases e
  |succ n=>
   unfold eW at e;simp only[bx]at e;obtain⟨r,h1,rfl⟩:=e;obtain⟨_,h3⟩:=dN h1;obtain⟨x,h4,h5⟩:=h3 j c hj
   exact⟨x,n,h4,by omega,h5⟩
 |tuple l=>cases hc
 |undef=>cases n<;>cases e
 |ptr _ _ _ _=>cases n<;>cases e
 |func _ _ _=>cases n<;>cases e
 |ref _ _=>cases n<;>cases e
 |iptr _ _=>cases n<;>cases e
 |arr _ _ _ _ _=>cases n<;>cases e
theorem J9{S}(hS:HOk P M0 S){M}(hM:∀b,Own S.m b->¬M b):∀(n) (v) (a) (q),Rep M0 S v a->eW n S.h a=some q->RepP M S.w v q:=by
 intro n
 induction n using Nat.strongRecOn with
 |_ n ih=>
  intro v a q hr e
  cases a with
  |p v'=>
   rw[mw]at e;split at e
   .rename_i hf;cases e;exact(tv _ hf).rep (show RepP (Avoid M0 S.m) S.w v q from hr)
   .cases e
  |slice id ver off len=>
   cases n with
   |zero=>cases e
   |succ n=>
    unfold eW at e;simp only[bx]at e;obtain⟨⟨sz,l⟩,h1,rfl⟩:=e;obtain⟨xs,hid,hv,hl⟩:=kH h1;dsimp only at hid hl |-;have hnil:len=0->(l.take (off+len)).drop off=[]:=by
     intro e;subst e;apply DB;simp
    rcases bK hr.2 hid hv with⟨h0,_,_,a,cap,rfl⟩|⟨b,cap,T',n',hm,rfl,⟨h1,h2⟩,_,_⟩|⟨_,rfl,h0⟩
    .rw[hnil h0];exact .empty (by simp)
    .obtain⟨C,T,hb,hsize,hel⟩:=dU hS hid hm;obtain⟨hxl,hfr⟩:=dN hl;have helem:∀(i:Nat) (q:PV),l[i]?=some q->(q.cells.length=sz/\∀c,c∈q.cells->c.isCell=true)/\∀(j:Nat) (c:PV),q.cells[j]?=some c->RepP M S.w (C.getD (i*sz+j) undef) c:=by
      intro i q hi;obtain⟨a,h0,hfa⟩:=hfr i q hi;obtain⟨cs,g1,g2,g3⟩:=hel i a h0;obtain⟨g4,g5⟩:=vI (q8 _ _ _ _ hfa) g1;have g6:=Et hfa g1;refine⟨⟨by omega,λc hc=>?_⟩,λj c hj=>?_⟩
      .obtain⟨j,hj⟩:=eL hc;obtain⟨x,m,k1,_,k3⟩:=g5 j c hj;exact kI (g3 j x k1).1 k3
      .obtain⟨x,m,k1,k2,k3⟩:=g6 j c hj;exact ih m (by omega) _ x c (ly (g3 j x k1).1 (g3 j x k1).2) k3
     have hMb:¬M b:=hM b (jX (cp hm))
     have:=qF (M:=M) (w:=S.w) (b:=b) (off:=0) (sz:=sz) (l:=off) (r:=off+len) (xs:=l) (λk=>C.getD k undef) (by omega) (by omega)
      (λx hx=>let ⟨i,hi⟩:=eL hx;(helem i x hi).1) (λ_=>hMb) (λk hk=>by rw[eN];exact gU hb k (by rw[<-hxl]at hk;omega)) (λi j x c hx hj=>(helem i x hx).2 j c hj) (cap:=cap) (full:=false) (by omega) (by simp)
     simpa using this
    .rw[hnil h0];exact .empty (by simp)
  |agg cs=>
   cases n with
   |zero=>cases e
   |succ n=>
    obtain⟨C,rfl,hc,h1,h2⟩:=hr;have e0:=q8 _ _ _ _ e;unfold eW at e;simp only[bx]at e;obtain⟨l,hl,rfl⟩:=e;obtain⟨h3,h4⟩:=dN hl;refine .agg (by omega) (λc hcl=>?_) λi c hi=>?_
    .obtain⟨i,hi⟩:=eL hcl;obtain⟨a,h5,h6⟩:=h4 i c hi;exact kI (hc a (aV h5)) (q8 _ _ _ _ h6)
    .obtain⟨a,h5,h6⟩:=h4 i c hi
     exact ih n (by omega) _ a c (ly (hc a (aV h5)) (h2 i a h5)) h6
  |tuple cs=>
   cases n with
   |zero=>cases e
   |succ n=>
    obtain⟨C,rfl,h1,h2⟩:=hr;unfold eW at e;simp only[bx]at e;obtain⟨l,hl,rfl⟩:=e;obtain⟨h3,h4⟩:=dN hl;refine .tuple (by omega) λi c hi=>?_;obtain⟨a,h5,h6⟩:=h4 i c hi
    exact ih n (by omega) _ a c (lz (h2 i a h5)) h6
  |undef=>cases n<;>cases e
  |ptr _ _ _ _=>cases n<;>cases e
  |func _ _ _=>cases n<;>cases e
  |ref _ _=>cases n<;>cases e
  |iptr _ _=>cases n<;>cases e
  |arr _ _ _ _ _=>cases n<;>cases e
def eS (P:Program) (f:FuncId) (pargs:List PV) (v:PV):Prop:=
 ∀(M0:Nat->Prop) (w:World) (cargs:Array Value),(∀b,M0 b->b<w.heap.size)->s4 P w->rx M0 w cargs pargs ->
  (∀w',(callFunc f cargs).run P w'=.ok (.enter f cargs) w') /\
  Calls P f cargs w λe w'=>∃v',e=.returned v'/\RepP (λb=>b<w.heap.size) w' v' v/\Fr [] w w'
theorem eS.pure{f}{pargs}{v}(h:eS P f pargs v):PCall P f pargs v:=by
 intro M0 w cargs hM hg ha;obtain⟨h1,h2⟩:=h M0 w cargs hM hg ha;refine⟨h1,h2.mono λe w' he=>?_⟩;obtain⟨v',rfl,hv,hfr⟩:=he;exact⟨v',rfl,RepP.less hv hM,hfr⟩
def yW (h:Heap):AEnd->Option PV
 |.ret a=>eW 8 h a
 |_=>none
theorem Ah(hD:eZ P){H}{f}{fn}{c}{pargs}{v}{rs}{n}(hf:P.funcs[f]?=some fn)(hb:fn.body=some c)(hrs:fn.results.toList=rs)(hn:fn.ntmps=n)(hok:dv H fn=true)
  (hlen:pargs.length<=n) (hw:wp P H c (jv P rs 0 (λ_ r h=>yW h r=some v)) (fZ n .no (pargs.map .p) [])):eS P f pargs v:=by
 intro M0 w cargs hM hg ha;have ha':cK (Rep M0 ⟨[],[],w⟩) cargs (pargs.map .p):=by
  refine⟨by simpa using ha.1,λi c hc=>?_⟩;simp only[bU,bx]at hc;obtain⟨q,hq,rfl⟩:=hc;exact ar ((ha.2 i q hq).mono (λ_ _ _=>rfl) (λb hb=>by
   rcases hb with hb|hb
   .exact .inl hb
   .simp[Own]at hb))
 have:=l7 hD (h:=[]) (R:=λr h=>yW h r=some v) hf hb hrs hn hok (by simpa using hlen) hw M0 [] w cargs (tr hM hg) ha';refine⟨this.1,this.2.mono λe w' h=>?_⟩;obtain⟨r,h',m',hR,hev,hk,hend⟩:=h;have hown:∀b,Own m' b->¬b<w.heap.size:=λb hb=>by
  rcases hev.sub b hb with h|h
  .simp[Own]at h
  .exact Nat.not_lt.2 h
 cases e with
 |returned v'=>
  cases r with
  |panic v=>cases hR
  |ret a=>exact⟨v',rfl,J9 (S:=⟨m',h',w'⟩) hk hown 8 v' a v hend hR,hev.fr⟩
 |panicked ch=>
  cases r with
  |panic v=>cases hR
  |ret a=>exact hend.elim
 |outgrown=>exact hend.elim
theorem x5{f}{args}{pargs}{v}{h}(hc:eS P f pargs v)(ha:pz h args=some pargs):aN P f args h (λr h'=>r=.ret (.p v)/\h'=h):=by
 intro M0 m w cargs hS hargs;obtain⟨hl,hg⟩:=Dj ha;have hpa:rx M0 w cargs pargs:=by
  refine⟨by rw[hargs.1,hl],λi c hi=>?_⟩;obtain⟨a,h1,h2⟩:=hg i c hi;exact sE (S:=⟨m,h,w⟩) hS (hargs.2 i a h1) h2
 obtain⟨h1,h2⟩:=hc M0 w cargs (λb hb=>(hS.m0 b hb).1) hS.gl.1 hpa;refine⟨h1,h2.mono λe w' hh=>?_⟩;obtain⟨v',rfl,hr,hfr⟩:=hh;obtain⟨hk,hev⟩:=sF hS hfr;refine⟨.ret (.p v),_,m,⟨rfl,rfl⟩,hev,hk,?_⟩;exact RepP.less hr λb hb=>by
  rcases hb with hb|hb
  .exact(hS.m0 b hb).1
  .exact hS.lt b hb
theorem ML{ops}{rest}{dst}{A}{f}{args}{pargs}{v}(hc:eS P f pargs v)(ha:pz A.h args=some pargs)
  (h:@WO ⟨P,H,ops,rest,Q⟩ (A.put dst (.p v) A.h)):@WF ⟨P,H,ops,rest,Q,dst⟩ A f args:=fj (x5 hc ha) h
theorem KX{ops}{rest}{o}{hs h0}{A}{f}{args}{pargs}{v}(hc:eS P f pargs v)(ha:pz h0 args=some pargs)
  (h:@WD ⟨P,H,ops,rest,Q⟩ hs (A.put o.dst (.p v) A.h)):@Dy ⟨P,H,ops,rest,Q,o⟩ hs h0 A (.call f args):=
 ⟨.p v,λ_ hs=>x5 hc (AW hs ha),h⟩
theorem fg{α:Type}(n)(h)(f)(hf:∀x,dY (f x)=true):∀l:List α,aM (eW n h) (l.map λx=>.p (f x))=some (l.map f)
 |[]=>rfl
 |x::r=>by rw[iu,aM,fg n h f hf r,mw,if_pos (hf x)];rfl
theorem nU{α:Type}(n)(h)(f)(hf:∀x,dY (f x)=true)(m):∀l:List α,aM (eW n h) ((l.map λx=>.p (f x))++m)=(aM (eW n h) m).map (l.map f++·)
 |[]=>by cases hm:aM (eW n h) m<;>simp[hm]
 |x::r=>by
  rw[iu,rO,aM,nU n h f hf m r,mw,if_pos (hf x)];cases aM (eW n h) m<;>rfl
theorem rH{α:Type}(n)(h)(f)(hf:∀x,dY (f x)=true)(l:List α):aM (eW n h) ((l.map f).map .p)=some (l.map f):=by
 rw[oX];exact fg n h f hf l
theorem yD{α:Type}(n)(h)(f)(hf:∀x,dY (f x)=true)(m)(l:List α):aM (eW n h) ((l.map f).map .p++m)=(aM (eW n h) m).map (l.map f++·):=by
 rw[oX];exact nU n h f hf m l
attribute [go_sem] rH yD dY dY.flatL eW mw yW fg nU
theorem Aa(n)(t)(j):(List.replicate n AObj.dead++t)[n+j]?=t[j]?:=by rw[ca (by simp)];simp
theorem FE(n)(t):(List.replicate n AObj.dead++t)[n]?=t[0]?:=Aa n t 0
attribute [go_sem] Aa FE
section
variable {α τ:Type}
theorem uG{x}{A}(live)(l)(hl:l.length<1000000000)(Inv:List α->List α->τ->Prop)(M)(hp)(t0)(hi:Inv [] l t0)
  (hh:A.h=hp [] t0) (h0:∀p,p∈cl A.tmps live (M [] t0)->A.tmps p.1=p.2)
  (hnil:∀t,Inv l [] t->@W ⟨P,H,x,dZ (gQ P (lx l Inv) (λs=>eP A live (gD M s) (gD hp s)) (λs=>s.2.1.length) (l,[],t)) Q⟩
   {n:=A.n,bs:=A.bs,rc:=A.rc,tmps:=dM (cl A.tmps live (M l t)),h:=hp l t,df:=A.df })
  (hcons:∀done y r t,l=done++y::r->Inv done (y::r) t->l[done.length]?=some y->((done.length:Int)<(l.length:Int))->IntKind.i64.wrap ((done.length:Int)+1)=(((done++[y]).length:Nat):Int) ->
   @W ⟨P,H,x,dZ (gQ P (lx l Inv) (λs=>eP A live (gD M s) (gD hp s)) (λs=>s.2.1.length) (done,y::r,t)) Q⟩
    {n:=A.n,bs:=A.bs,rc:=A.rc,tmps:=dM (cl A.tmps live (M done t)),h:=hp done t,df:=A.df }):@W ⟨P,H,.loop x,Q⟩ A:=by
 refine lU live (lx l Inv) (λs=>s.2.1.length) (gD M) (gD hp) ([],l,t0) ⟨rfl,hi⟩ hh h0 ?_
 rintro⟨done,rest,t⟩ ⟨e1,e2⟩
 dsimp only at e1 e2
 cases rest with
 |nil=>
  rw[co]at e1;subst e1
  exact hnil t e2
 |cons y r=>
  have hlen:done.length<l.length:=by rw[e1];simp
  have hg:l[done.length]?=some y:=by rw[e1];simp
  refine hcons done y r t e1 e2 hg (by omega) ?_;have e:((done.length:Int)+1)=(((done++[y]).length:Nat):Int):=by simp
  rw[e];exact IntWalk.i64_in _ ⟨by omega,by simp<;>omega⟩
theorem lV{l}{Inv:List α->List α->τ->Prop}{M}{hp}{live}{done r}{y}{t}{A B}
  (e1:l=done++y::r) (t') (hinv:Inv (done++[y]) r t') (hh:B.h=hp (done++[y]) t') (h3:∀p,p∈cl A.tmps live (M (done++[y]) t')->B.tmps p.1=p.2)
  (hn:B.n=A.n:=by rfl) (hb:B.bs=A.bs:=by rfl) (hr:B.rc=A.rc:=by rfl) (hd:B.df=A.df:=by rfl) :
  @WQ ⟨dZ (gQ P (lx l Inv) (λs=>eP A live (gD M s) (gD hp s)) (λs=>s.2.1.length) (done,y::r,t)) Q⟩ .normal B:=
 ⟨(done++[y],r,t'),⟨by simp[e1],hinv⟩,by simp,qo hn hb hr hd hh h3⟩
end
attribute [go_sem] vd F2 D7
end Abs
end Go.Proofs.YtmndpldajflenaaGreatDoor
namespace Go.Proofs.YtmndpldajflenaaGreatDoor
namespace Abs
variable {P:Program}
inductive PL:PV->PV->Prop
 |refl (v:PV):PL v v
 |nil (sz:Nat):PL .nilslice (.slice sz [] false)
 |agg {a b:List PV} (hl:a.length=b.length) (hc:∀c,c∈b->c.isCell=true) (h:∀(i:Nat) (q c:PV),a[i]?=some q->b[i]?=some c->PL q c):PL (.agg a) (.agg b)
 |slice {sz:Nat} {xs ys:List PV} {full:Bool} (hl:xs.length=ys.length) (hc:∀y,y∈ys->y.cells.length=sz/\∀c,c∈y.cells->c.isCell=true) (h:∀(i:Nat) (q c:PV),xs[i]?=some q->ys[i]?=some c->PL q c) :
   PL (.slice sz xs full) (.slice sz ys false)
 |tuple {a b:List PV} (hl:a.length=b.length) (h:∀(i:Nat) (q c:PV),a[i]?=some q->b[i]?=some c->PL q c):PL (.tuple a) (.tuple b)
theorem PL.cells{q v}(h:PL q v):q.cells.length=v.cells.length/\∀(j:Nat) (c d),q.cells[j]?=some c->v.cells[j]?=some d->PL c d:=by
 cases h with
 |refl v=>exact⟨rfl,λj c d h1 h2=>by rw[h1]at h2;cases h2;exact .refl _⟩
 |nil sz=>exact⟨rfl,λj c d h1 h2=>by cases j<;>cases h1;cases h2;exact .nil sz⟩
 |agg hl hc h=>exact⟨hl,h⟩
 |slice hl hc h=>exact⟨rfl,λj c d h1 h2=>by cases j<;>cases h1;cases h2;exact .slice hl hc h⟩
 |tuple hl h=>exact⟨rfl,λj c d h1 h2=>by cases j<;>cases h1;cases h2;exact .tuple hl h⟩
theorem PL.single{q y}(h:PL q y)(hq:∀l,q≠.agg l):y.cells=[y]:=by
 cases h with
 |refl v=>cases q with
  |agg l=>exact absurd rfl (hq l)
  |_=>rfl
 |nil _=>rfl
 |agg _ _ _=>exact absurd rfl (hq _)
 |slice _ _ _=>rfl
 |tuple _ _=>rfl
theorem PL.rep{M}{w}{q v}(h:PL q v):∀{u},RepP M w u q->RepP M w u v:=by
 induction h with
 |refl v=>intro u hr;exact hr
 |nil sz=>intro u hr;cases hr;exact .empty (by simp)
 |@agg a b hl hc h ih=>
  intro u hr
  cases hr with
  |agg hn hs hr=>
   refine .agg (by omega) hc λi c hi=>?_;have hlt:i<a.length:=by have:=(aA.1 hi).1;omega
   exact ih i _ c (aT hlt) hi (hr i _ (aT hlt))
 |@tuple a b hl h ih=>
  intro u hr
  cases hr with
  |tuple hn hr=>
   refine .tuple (by omega) λi c hi=>?_;have hlt:i<a.length:=by have:=(aA.1 hi).1;omega
   exact ih i _ c (aT hlt) hi (hr i _ (aT hlt))
 |@slice sz xs ys full hl hc h ih=>
  intro u hr
  cases hr with
  |empty hf=>
   have:ys=[]:=wA.1 hl.symm;subst this
   exact .empty (by simp)
  |slice f hlen hcap hfull hsz hm hcell hrep=>
   rw[hl]at hm hcell;refine .slice f (by omega) hcap (by simp) hc hm hcell λi j y c hy hj=>?_;have hlt:i<xs.length:=by have:=(aA.1 hy).1;omega
   have hx:xs[i]?=some xs[i]:=aT hlt;have hp:=h i _ y hx hy;obtain⟨g1,g2⟩:=hp.cells;have hsx:=hsz _ (nk hlt);have hsy:=hc y (aV hy)
   cases hxx:xs[i] with
   |agg a=>
    rw[hxx]at hp hsx hx;obtain⟨b,rfl⟩:∃b,y=.agg b:=by
     generalize hq:PV.agg a=q at hp
     cases hp with
     |refl v=>exact⟨a,hq.symm⟩
     |agg _ _ _=>exact⟨_,rfl⟩
     |nil _=>cases hq
     |slice _ _ _=>cases hq
     |tuple _ _=>cases hq
    have hv:RepP M w (.agg (Array.ofFn λk:Fin sz=>f (i*sz+k.val))) (.agg a):=by
     refine .agg (by have:=hsx.1;simp[PV.cells]at this;simp[this]) hsx.2 λk c hk=>?_;have hk':k<sz:=by have:=(aA.1 hk).1;have:=hsx.1;simp[PV.cells]at this;omega
     have:=hrep i k (.agg a) c hx hk;simpa[hk']using this
    have hv2:=ih i _ _ hx hy hv
    cases hv2 with
    |agg hn hs hr2=>
     have hk':j<sz:=by have:=(aA.1 hj).1;have:=hsy.1;omega
     have:=hr2 j c hj
     simpa[hk']using this
   |_=>
    have hyc:y.cells=[y]:=hp.single λl=>by rw[hxx];simp
    have hxc:xs[i].cells=[xs[i]]:=by rw[hxx];rfl
    rw[hyc]at hj
    cases j with
    |zero=>
     cases hj
     exact ih i _ _ hx hy (hrep i 0 _ _ hx (by rw[hxc];rfl))
    |succ j=>cases hj
def yr:List PV->List PV->Prop
 |[],[]=>True
 |q::a,c::b=>PL q c/\yr a b
 |_,_=>False
theorem yr.get:∀{a b},yr a b->a.length=b.length/\∀(i:Nat) (q c),a[i]?=some q->b[i]?=some c->PL q c
 |[],[],_=>⟨rfl,by simp⟩
 |q::a,c::b,h=>by
  obtain⟨h1,h2⟩:=yr.get h.2;refine⟨by simp[h1],λi x y hx hy=>?_⟩
  cases i with
  |zero=>cases hx;cases hy;exact h.1
  |succ i=>exact h2 i x y (by simpa using hx) (by simpa using hy)
 |[],_::_,h=>h.elim
 |_::_,[],h=>h.elim
def Mb (l:List PV):Bool:=l.all PV.isCell
def L6 (sz:Nat) (l:List PV):Bool:=l.all λy=>y.cells.length==sz&&y.cells.all PV.isCell
theorem PL.aggL{a b}(hc:Mb b=true)(h:yr a b):PL (.agg a) (.agg b):=.agg h.get.1 (λc hcb=>iw.1 hc c hcb) h.get.2
theorem PL.sliceL{sz}{xs ys}{full}(hc:L6 sz ys=true)(h:yr xs ys):PL (.slice sz xs full) (.slice sz ys false):=
 .slice h.get.1 (λy hy=>by
  have:=iw.1 hc y hy;simp at this
  exact⟨this.1,λc hc=>this.2 c hc⟩) h.get.2
theorem PL.tupleL{a b}(h:yr a b):PL (.tuple a) (.tuple b):=.tuple h.get.1 h.get.2
end Abs
end Go.Proofs.YtmndpldajflenaaGreatDoor
