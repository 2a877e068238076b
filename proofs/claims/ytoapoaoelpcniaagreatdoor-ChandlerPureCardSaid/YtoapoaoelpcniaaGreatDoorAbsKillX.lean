/- CONTRACTS of the program's functions, and laws on what they return. No conditions but those in the theorems' heads. -/
import Derived.Test.YtoapoaoelpcniaaGreatDoorAbsEvX
import Derived.Test.YtoapoaoelpcniaaGreatDoorSeatTy
import Derived.Test.YtoapoaoelpcniaaGreatDoorTie
import Derived.LaidLaws
import Derived.LaidSub
import Derived.LaidMore
import Derived.Lay
import Derived.MakeChecks
set_option linter.all false
open Go.Proofs.Tryz renaming prog->TP
namespace Go.Proofs.YtoapoaoelpcniaaGreatDoor
namespace Abs
variable {P:Program} {H:Hints} {Q:Cont} {M0:Nat->Prop}
def eU (K:Nat->Bool) (h:Heap):Heap:=h.mapIdx λi o=>if K i=true then .dead else o
def gM (K:Nat->Bool) (m:List (Option Nat)):List (Option Nat):=m.mapIdx λi μ=>if K i=true then none else μ
def Mem.kill (K:Nat->Bool) (S:Mem):Mem:=⟨gM K S.m,eU K S.h,S.w⟩
theorem qx(K)(h)(i):(eU K h)[i]?=(h[i]?).map λo=>if K i=true then .dead else o:=by
 unfold eU;rw[E5]
theorem xt(K)(m)(i):(gM K m)[i]?=(m[i]?).map λo=>if K i=true then none else o:=by
 unfold gM;rw[E5]
theorem oG{K}{h}{i}(hk:K i=false):(eU K h)[i]?=h[i]?:=by
 rw[qx,hk];simp
theorem oH{K}{h}{i}{o}(hk:K i=true)(ho:h[i]?=some o):(eU K h)[i]?=some .dead:=by
 rw[qx,hk,ho];rfl
theorem rB{K}{m}{i}(hk:K i=false):(gM K m).getD i none=m.getD i none:=by
 rw[cd,cd,xt,hk];simp
theorem xr{K}{m}{i b}(h:(gM K m)[i]?=some (some b)):m[i]?=some (some b)/\K i=false:=by
 rw[xt]at h
 cases hk:K i with
 |true=>
  rw[hk]at h
  cases hm:m[i]?<;>rw[hm]at h<;>cases h
 |false=>
  rw[hk]at h;refine⟨?_,rfl⟩
  cases hm:m[i]? with
  |none=>rw[hm]at h;cases h
  |some μ=>rw[hm]at h;simpa using h
theorem jQ{K}{m}{b}(h:Own (gM K m) b):∃i,m[i]?=some (some b)/\K i=false:=by
 obtain⟨i,hi⟩:=dX h;exact⟨i,xr hi⟩
theorem mN{m}{i b:Nat}(h:m[i]?=some (some b)):Own m b:=aG h
theorem dU.kill{S}{K}{id ver}{X}(h:dU S id ver X):dU (S.kill K) id ver X:=by
 unfold dU at *
 have e1:(S.kill K).h[id]?=(eU K S.h)[id]?:=rfl;have e2:(S.kill K).m.getD id none=(gM K S.m).getD id none:=rfl;rw[e1,e2]
 cases hk:K id with
 |true=>
  left;rcases h with h|⟨sz,xs,h,_⟩
  .exact oH hk h
  .exact oH hk h
 |false=>
  rw[oG hk,rB hk];exact h
section
variable {M1:Nat->Prop} {S:Mem} {K:Nat->Bool} (hM:∀b,Avoid M1 (gM K S.m) b->Avoid M0 S.m b)
include hM
theorem cS.kill{v}{a}(h:cS M0 S v a):cS M1 (S.kill K) v a:=by
 cases a with
 |p q=>exact RepP.less (show RepP (Avoid M0 S.m) S.w v q from h) hM
 |ptr id ver i o=>exact⟨h.1,dU.kill h.2⟩
 |slice id ver off len=>exact⟨h.1,dU.kill (S:=S) h.2⟩
 |ref k id=>
  refine⟨h.1,?_⟩;have e1:(S.kill K).h[id]?=(eU K S.h)[id]?:=rfl;have e2:(S.kill K).m.getD id none=(gM K S.m).getD id none:=rfl;rw[e1,e2]
  cases hk:K id with
  |true=>
   left;rcases h.2 with h|⟨⟨o,h,_⟩,_⟩
   .exact oH hk h
   .exact oH hk h
  |false=>
   rw[oG hk,rB hk]
   exact h.2
 |undef=>exact trivial
 |agg cs=>exact h.elim
 |func fn f c=>exact h.elim
 |tuple vs=>exact h.elim
theorem bO.kill{v}{a}(h:bO M0 S v a):bO M1 (S.kill K) v a:=by
 cases a with
 |func fn f c=>
  obtain⟨F,C,rfl,h1,h2⟩:=h
  exact⟨F,C,rfl,h1.imp λv c hc hr=>cS.kill hM hr,h2.imp λv c hc hr=>cS.kill hM hr⟩
 |p q=>exact cS.kill (M0:=M0) (a:=.p q) hM h
 |ptr id ver i o=>exact cS.kill (M0:=M0) (a:=.ptr id ver i o) hM h
 |slice id ver off len=>exact cS.kill (M0:=M0) (a:=.slice id ver off len) hM h
 |ref k id=>exact cS.kill (M0:=M0) (a:=.ref k id) hM h
 |undef=>exact trivial
 |agg cs=>exact h.elim
 |tuple vs=>exact h.elim
theorem d4.kill{v}{a}(h:d4 M0 S v a):d4 M1 (S.kill K) v a:=by
 cases a with
 |agg cs=>
  obtain⟨C,rfl,h1,h2⟩:=h
  exact⟨C,rfl,h1,h2.imp λv c hc hr=>bO.kill hM hr⟩
 |p q=>exact bO.kill (M0:=M0) (a:=.p q) hM h
 |ptr id ver i o=>exact bO.kill (M0:=M0) (a:=.ptr id ver i o) hM h
 |slice id ver off len=>exact bO.kill (M0:=M0) (a:=.slice id ver off len) hM h
 |ref k id=>exact bO.kill (M0:=M0) (a:=.ref k id) hM h
 |func fn f c=>exact bO.kill (M0:=M0) (a:=.func fn f c) hM h
 |undef=>exact trivial
 |tuple vs=>exact h.elim
theorem Rep.kill{v}{a}(h:Rep M0 S v a):Rep M1 (S.kill K) v a:=by
 cases a with
 |tuple cs=>
  obtain⟨C,rfl,h2⟩:=h
  exact⟨C,rfl,h2.imp λv c hc hr=>d4.kill hM hr⟩
 |p q=>exact d4.kill (M0:=M0) (a:=.p q) hM h
 |ptr id ver i o=>exact d4.kill (M0:=M0) (a:=.ptr id ver i o) hM h
 |slice id ver off len=>exact d4.kill (M0:=M0) (a:=.slice id ver off len) hM h
 |ref k id=>exact d4.kill (M0:=M0) (a:=.ref k id) hM h
 |func fn f c=>exact d4.kill (M0:=M0) (a:=.func fn f c) hM h
 |agg cs=>exact d4.kill (M0:=M0) (a:=.agg cs) hM h
 |undef=>exact trivial
theorem HOk.kill(hS:HOk P M0 S)(h1:∀b,M1 b->b<S.w.heap.size/\¬Own (gM K S.m) b):HOk P M1 (S.kill K) where
 len:=by simp[Mem.kill,gM,eU,hS.len]
 lt:=λb h=>let ⟨i,hi,_⟩:=jQ h;hS.lt b (mN hi)
 m0:=h1
 gl:=hS.gl.fr (λ_ _ _=>rfl) λb hb=>let ⟨i,hi,_⟩:=jQ hb;.inl (mN hi)
 inj:=λi j b hi hj=>hS.inj i j b (xr hi).1 (xr hj).1
 obj:=λid o hid=>by
  have e2:(S.kill K).m.getD id none=(gM K S.m).getD id none:=rfl;have hid':(eU K S.h)[id]?=some o:=hid
  cases hk:K id with
  |true=>
   rw[qx,hk]at hid'
   cases hm:S.h[id]? with
   |none=>rw[hm]at hid';cases hid'
   |some o'=>rw[hm]at hid';cases hid';exact trivial
  |false=>
   rw[oG hk]at hid';rw[e2,rB hk];have:=hS.obj id o hid'
   cases o with
   |row sz xs=>
    rcases this with h|⟨b,T,C,h1,h2,h3,h4⟩
    .exact .inl h
    .refine .inr ⟨b,T,C,h1,h2,h3,λi x hx=>?_⟩;obtain⟨cs,h5,h6,h7⟩:=h4 i x hx
     exact⟨cs,h5,h6,λj c hc=>⟨(h7 j c hc).1,bO.kill hM (h7 j c hc).2⟩⟩
   |loop n tmps ps assign body st pend=>
    obtain⟨b,r,h1,h2,h3,h4,h5⟩:=this
    exact⟨b,r,h1,h2,h3,λt=>Rep.kill hM (h4 t),h5⟩
   |strIter s p=>exact this
   |mp es=>
    obtain⟨b,C,clk,h1,h2,h3⟩:=this
    exact⟨b,C,clk,h1,h2,h3.mono λv a=>bO.kill hM⟩
   |memo f=>
    obtain⟨hg,es,hf,b,C,clk,h1,h2,h3⟩:=this
    exact⟨hg,es,hf,b,C,clk,h1,h2,h3.mono λv a=>bO.kill hM⟩
   |dblock=>exact this
   |bld T el x=>
    obtain⟨b,p,v,h1,h2,h3,h4,h5,h6⟩:=this
    exact⟨b,p,v,h1,h2,h3,h4,cS.kill hM h5,h6⟩
   |dead=>exact trivial
end
theorem CF(S:Mem)(K:Nat->Bool)(base:Nat):Ev base S (S.kill K) where
 fr:=Fr.refl _ _
 sub:=λb hb=>let ⟨i,hi,_⟩:=jQ (K:=K) hb;.inl (mN hi)
 obj:=λid o _ ho=>by
  cases hk:K id with
  |true=>exact⟨.dead,oH hk ho,.inl rfl⟩
  |false=>
   refine⟨o,(oG hk).trans ho,?_⟩;have e2:(S.kill K).m.getD id none=S.m.getD id none:=rB hk;rw[e2];exact ObjEv.refl _ _
theorem z7{S}(hS:HOk P M0 S)(K):HOk P M0 (S.kill K):=
 HOk.kill (M0:=M0) (M1:=M0) (λ_ hb=>hb.imp id λh=>let ⟨_,hi,_⟩:=jQ h;mN hi) hS
  (λb hb=>⟨(hS.m0 b hb).1,λh=>(hS.m0 b hb).2 (let ⟨_,hi,_⟩:=jQ h;mN hi)⟩)
theorem Aa{S}(hS:HOk P M0 S)(K){v}{a}{q}(hr:Rep M0 S v a)(hf:zg (eU (λi=>!K i) S.h) a=some q):RepP (Avoid M0 (gM K S.m)) S.w v q:=by
 have hM:∀b,Avoid (Avoid M0 (gM K S.m)) (gM (λi=>!K i) S.m) b->Avoid M0 S.m b:=by
  rintro b ((hb|hb)|hb)
  .exact .inl hb
  .obtain⟨_,hi,_⟩:=jQ hb;exact .inr (mN hi)
  .obtain⟨_,hi,_⟩:=jQ hb;exact .inr (mN hi)
 have hk:=HOk.kill hM hS (λb hb=>by
  rcases hb with hb|hb
  .exact⟨(hS.m0 b hb).1,λh=>(hS.m0 b hb).2 (let ⟨_,hi,_⟩:=jQ h;mN hi)⟩
  .obtain⟨i,hi,hki⟩:=jQ hb;refine⟨hS.lt b (mN hi),λh=>?_⟩;obtain⟨j,hj,hkj⟩:=jQ h;have:=hS.inj i j b hi hj;subst this;rw[hki]at hkj
   cases hkj)
 exact sE (S:=S.kill λi=>!K i) hk (Rep.kill hM hr) hf
def AZ (id:Nat):AV->Prop
 |.p _=>True
 |.slice i _ _ _=>i=id
 |.ptr i _ _ _=>i=id
 |_=>False
theorem GK(id)(h):eU (λi=>i==id) h=h.set id .dead:=by
 apply uS;intro i;rw[qx,EY];by_cases hi:i=id
 .subst hi
  cases hh:h[i]? with
  |none=>
   have:¬i<h.length:=by simpa using hh
   simp[this]
  |some o=>
   have:i<h.length:=(aF.1 hh).1;simp[this]
 .have:(i==id)=false:=by simpa using hi
  rw[this,if_neg (Ne.symm hi)];simp
theorem Nm(id):(∀a,a∈([]:List AV)->AZ id a)=True:=by simp
theorem Lj(id)(x)(l):(∀a,a∈x::l->AZ id a)=(AZ id x/\∀a,a∈l->AZ id a):=by simp
def fK:PV->Bool
 |.bool _=>true
 |.int _ _=>true
 |.str _=>true
 |.agg cs=>flatL cs
 |.tuple cs=>flatL cs
 |.nilslice=>true
 |.nilptr=>true
 |.nilfunc=>true
 |.niliface=>true
 |.any=>true
 |.iface _ v=>fK v
 |_=>false
where flatL:List PV->Bool
 |[]=>true
 |c::l=>fK c&&flatL l
theorem CD:∀(q),fK q=true->Flat q
 |.bool b,_=>.bool b
 |.int k n,_=>.int k n
 |.str s,_=>.str s
 |.agg cs,h=>by
  rw[fK]at h
  exact .agg (key cs h)
 |.nilslice,_=>.nilslice
 |.nilptr,_=>.nilptr
 |.nilfunc,_=>.nilfunc
 |.niliface,_=>.niliface
 |.any,_=>.any
 |.tuple cs,h=>by
  rw[fK]at h
  exact .tuple (key cs h)
 |.slice _ _ _,h=>by simp[fK]at h
 |.ptr _ _ _ _,h=>by simp[fK]at h
 |.func _ _ _,h=>by simp[fK]at h
 |.iface _ v,h=>.iface (CD v (by rw[fK]at h;exact h))
where key:∀(cs:List PV),fK.flatL cs=true->∀(i:Nat) (c:PV),cs[i]?=some c->Flat c
 |[],_=>Flat.nil
 |c::l,h=>by
  rw[fK.flatL,cG]at h;exact Flat.cons (CD c h.1) (key l h.2)
def gS:Nat->Heap->AV->Option PV
 |_,_,.p v=>if fK v=true then some v else none
 |0,_,_=>none
 |n+1,h,.slice id ver off len=>(mU (gS n h) ver h[id]?).map λq=>.slice q.1 ((q.2.take (off+len)).drop off) false
 |n+1,h,.agg cs=>(aV (gS n h) cs).map .agg
 |n+1,h,.tuple cs=>(aV (gS n h) cs).map .tuple
 |_,_,_=>none
theorem qE(n)(h)(v):gS n h (.p v)=if fK v=true then some v else none:=by cases n<;>rfl
theorem vU:∀(n) (h) (a) (q),gS n h a=some q->cm n h a=some q:=by
 intro n
 induction n with
 |zero=>
  intro h a q e
  cases a with
  |p v=>rw[qE]at e;split at e<;>cases e;rw[eJ]
  |_=>cases e
 |succ n ih=>
  intro h a q e
  cases a with
  |p v=>rw[qE]at e;split at e<;>cases e;rw[eJ]
  |slice id ver off len=>
   unfold gS at e;unfold cm;simp only[cg]at e |-;obtain⟨r,h1,h2⟩:=e;obtain⟨xs,h3,h4,h5⟩:=qD h1;refine⟨r,?_,h2⟩
   rw[h3,mU,if_pos h4,fP (ih h) h5];rfl
  |agg cs=>
   unfold gS at e;unfold cm;simp only[cg]at e |-;obtain⟨r,h1,h2⟩:=e
   exact⟨r,fP (ih h) h1,h2⟩
  |tuple cs=>
   unfold gS at e;unfold cm;simp only[cg]at e |-;obtain⟨r,h1,h2⟩:=e
   exact⟨r,fP (ih h) h1,h2⟩
  |_=>cases e
theorem LM{n}{h}{a}{q}{cs}(e:gS n h a=some q)(hc:a.cells=some cs) :
  ∀(j:Nat) (c),q.cells[j]?=some c->∃x m,cs[j]?=some x/\m<=n/\gS m h x=some c:=by
 intro j c hj
 cases a with
 |p v=>
  rw[qE]at e;split at e
  .rename_i hf;cases e;have hcs:cs=q.cells.map .p:=by
    cases q with
    |tuple l=>cases hc
    |_=>cases hc;rfl
   refine⟨.p c,n,by rw[hcs,cO,hj];rfl,bB _,?_⟩;rw[qE];have:fK c=true:=by
    cases q with
    |agg l=>
     have key:∀(l:List PV),fK.flatL l=true->∀x,x∈l->fK x=true:=by
      intro l
      induction l with
      |nil=>intro _ x hx;cases hx
      |cons y l ih=>
       intro hl x hx;rw[fK.flatL,cG]at hl;rcases ci.1 hx with rfl|hx
       .exact hl.1
       .exact ih hl.2 x hx
     rw[fK]at hf
     exact key l hf c (aG hj)
    |_=>
     have hj':[_][j]?=some c:=hj
     cases j with
     |zero=>cases hj';exact hf
     |succ j=>cases hj'
   rw[if_pos this]
  .cases e
 |slice id ver off len=>
  cases hc
  cases n with
  |zero=>cases e
  |succ n=>
   have hq:q.cells=[q]:=y5 (nT (a:=.slice id ver off len) rfl (vU _ _ _ _ e));rw[hq]at hj
   cases j with
   |zero=>cases hj;exact⟨_,n+1,rfl,bB _,e⟩
   |succ j=>cases hj
 |agg l=>
  cases hc
  cases n with
  |zero=>cases e
  |succ n=>
   unfold gS at e;simp only[cg]at e;obtain⟨r,h1,rfl⟩:=e;obtain⟨_,h3⟩:=ft h1;obtain⟨x,h4,h5⟩:=h3 j c hj
   exact⟨x,n,h4,by omega,h5⟩
 |tuple l=>cases hc
 |undef=>cases n<;>cases e
 |ptr _ _ _ _=>cases n<;>cases e
 |func _ _ _=>cases n<;>cases e
 |ref _ _=>cases n<;>cases e
theorem S8{S}(hS:HOk P M0 S){M}(hM:∀b,Own S.m b->¬M b):∀(n) (v) (a) (q),Rep M0 S v a->gS n S.h a=some q->RepP M S.w v q:=by
 intro n
 induction n using Nat.strongRecOn with
 |_ n ih=>
  intro v a q hr e
  cases a with
  |p v'=>
   rw[qE]at e;split at e
   .rename_i hf;cases e;exact(CD _ hf).rep (show RepP (Avoid M0 S.m) S.w v q from hr)
   .cases e
  |slice id ver off len=>
   cases n with
   |zero=>cases e
   |succ n=>
    unfold gS at e;simp only[cg]at e;obtain⟨⟨sz,l⟩,h1,rfl⟩:=e;obtain⟨xs,hid,hv,hl⟩:=qD h1;dsimp only at hid hl |-;have hnil:len=0->(l.take (off+len)).drop off=[]:=by
     intro e;subst e;apply tK;simp
    rcases di hr.2 hid hv with⟨h0,_,_,a,cap,rfl⟩|⟨b,cap,T',n',hm,rfl,⟨h1,h2⟩,_,_⟩|⟨_,rfl,h0⟩
    .rw[hnil h0];exact .empty (by simp)
    .obtain⟨C,T,hb,hsize,hel⟩:=fF hS hid hm;obtain⟨hxl,hfr⟩:=ft hl;have helem:∀(i:Nat) (q:PV),l[i]?=some q->(q.cells.length=sz/\∀c,c∈q.cells->c.isCell=true)/\∀(j:Nat) (c:PV),q.cells[j]?=some c->RepP M S.w (C.getD (i*sz+j) undef) c:=by
      intro i q hi;obtain⟨a,h0,hfa⟩:=hfr i q hi;obtain⟨cs,g1,g2,g3⟩:=hel i a h0;obtain⟨g4,g5⟩:=Bu (vU _ _ _ _ hfa) g1;have g6:=LM hfa g1;refine⟨⟨by omega,λc hc=>?_⟩,λj c hj=>?_⟩
      .obtain⟨j,hj⟩:=dX hc;obtain⟨x,m,k1,_,k3⟩:=g5 j c hj;exact nT (g3 j x k1).1 k3
      .obtain⟨x,m,k1,k2,k3⟩:=g6 j c hj;exact ih m (by omega) _ x c (sh (g3 j x k1).1 (g3 j x k1).2) k3
     have hMb:¬M b:=hM b (mN (cK hm))
     have:=vn (M:=M) (w:=S.w) (b:=b) (off:=0) (sz:=sz) (l:=off) (r:=off+len) (xs:=l) (λk=>C.getD k undef) (by omega) (by omega)
      (λx hx=>let ⟨i,hi⟩:=dX hx;(helem i x hi).1) (λ_=>hMb) (λk hk=>by rw[iq];exact jE hb k (by rw[<-hxl]at hk;omega)) (λi j x c hx hj=>(helem i x hx).2 j c hj) (cap:=cap) (full:=false) (by omega) (by simp)
     simpa using this
    .rw[hnil h0];exact .empty (by simp)
  |agg cs=>
   cases n with
   |zero=>cases e
   |succ n=>
    obtain⟨C,rfl,hc,h1,h2⟩:=hr;have e0:=vU _ _ _ _ e;unfold gS at e;simp only[cg]at e;obtain⟨l,hl,rfl⟩:=e;obtain⟨h3,h4⟩:=ft hl;refine .agg (by omega) (λc hcl=>?_) λi c hi=>?_
    .obtain⟨i,hi⟩:=dX hcl;obtain⟨a,h5,h6⟩:=h4 i c hi;exact nT (hc a (aG h5)) (vU _ _ _ _ h6)
    .obtain⟨a,h5,h6⟩:=h4 i c hi
     exact ih n (by omega) _ a c (sh (hc a (aG h5)) (h2 i a h5)) h6
  |tuple cs=>
   cases n with
   |zero=>cases e
   |succ n=>
    obtain⟨C,rfl,h1,h2⟩:=hr;unfold gS at e;simp only[cg]at e;obtain⟨l,hl,rfl⟩:=e;obtain⟨h3,h4⟩:=ft hl;refine .tuple (by omega) λi c hi=>?_;obtain⟨a,h5,h6⟩:=h4 i c hi
    exact ih n (by omega) _ a c (pz (h2 i a h5)) h6
  |undef=>cases n<;>cases e
  |ptr _ _ _ _=>cases n<;>cases e
  |func _ _ _=>cases n<;>cases e
  |ref _ _=>cases n<;>cases e
def ip (P:Program) (f:FuncId) (pargs:List PV) (v:PV):Prop:=
 ∀(M0:Nat->Prop) (w:World) (cargs:Array Value),(∀b,M0 b->b<w.heap.size)->wC P w->rO M0 w cargs pargs ->
  (∀w',(callFunc f cargs).run P w'=.ok (.enter f cargs) w') /\
  Calls P f cargs w λe w'=>∃v',e=.returned v'/\RepP (λb=>b<w.heap.size) w' v' v/\Fr [] w w'
theorem ip.pure{f}{pargs}{v}(h:ip P f pargs v):af P f pargs v:=by
 intro M0 w cargs hM hg ha;obtain⟨h1,h2⟩:=h M0 w cargs hM hg ha;refine⟨h1,h2.mono λe w' he=>?_⟩;obtain⟨v',rfl,hv,hfr⟩:=he;exact⟨v',rfl,RepP.less hv hM,hfr⟩
def Fh (h:Heap):AEnd->Option PV
 |.ret a=>gS 8 h a
 |_=>none
theorem Gg(hD:ea P){H}{f}{fn}{c}{pargs}{v}{rs}{n}(hf:P.funcs[f]?=some fn)(hb:fn.body=some c)(hrs:fn.results.toList=rs)(hn:fn.ntmps=n)(hok:cC H fn=true)
  (hlen:pargs.length<=n) (hw:wp P H c (iW P rs 0 (λ_ r h=>Fh h r=some v)) (aZ n .no (pargs.map .p) [])):ip P f pargs v:=by
 intro M0 w cargs hM hg ha;have ha':dZ (Rep M0 ⟨[],[],w⟩) cargs (pargs.map .p):=by
  refine⟨by simpa using ha.1,λi c hc=>?_⟩;simp only[cO,cg]at hc;obtain⟨q,hq,rfl⟩:=hc;exact aH ((ha.2 i q hq).mono (λ_ _ _=>rfl) (λb hb=>by
   rcases hb with hb|hb
   .exact .inl hb
   .simp[Own]at hb))
 have:=jT hD (h:=[]) (R:=λr h=>Fh h r=some v) hf hb hrs hn hok (by simpa using hlen) hw M0 [] w cargs (rT hM hg) ha';refine⟨this.1,this.2.mono λe w' h=>?_⟩;obtain⟨r,h',m',hR,hev,hk,hend⟩:=h;have hown:∀b,Own m' b->¬b<w.heap.size:=λb hb=>by
  rcases hev.sub b hb with h|h
  .simp[Own]at h
  .exact Nat.not_lt.2 h
 cases e with
 |returned v'=>
  cases r with
  |panic v=>cases hR
  |ret a=>exact⟨v',rfl,S8 (S:=⟨m',h',w'⟩) hk hown 8 v' a v hend hR,hev.fr⟩
 |panicked ch=>
  cases r with
  |panic v=>cases hR
  |ret a=>exact hend.elim
 |outgrown=>exact hend.elim
theorem DS{f}{args}{pargs}{v}{h}(hc:ip P f pargs v)(ha:qW h args=some pargs):aD P f args h (λr h'=>r=.ret (.p v)/\h'=h):=by
 intro M0 m w cargs hS hargs;obtain⟨hl,hg⟩:=CC ha;have hpa:rO M0 w cargs pargs:=by
  refine⟨by rw[hargs.1,hl],λi c hi=>?_⟩;obtain⟨a,h1,h2⟩:=hg i c hi;exact sE (S:=⟨m,h,w⟩) hS (hargs.2 i a h1) h2
 obtain⟨h1,h2⟩:=hc M0 w cargs (λb hb=>(hS.m0 b hb).1) hS.gl.1 hpa;refine⟨h1,h2.mono λe w' hh=>?_⟩;obtain⟨v',rfl,hr,hfr⟩:=hh;obtain⟨hk,hev⟩:=tB hS hfr;refine⟨.ret (.p v),_,m,⟨rfl,rfl⟩,hev,hk,?_⟩;exact RepP.less hr λb hb=>by
  rcases hb with hb|hb
  .exact(hS.m0 b hb).1
  .exact hS.lt b hb
theorem yc{ops}{rest}{dst}{A}{f}{args}{pargs}{v}(hc:ip P f pargs v)(ha:qW A.h args=some pargs)
  (h:@WO ⟨P,H,ops,rest,Q⟩ (A.put dst (.p v) A.h)):@WF ⟨P,H,ops,rest,Q,dst⟩ A f args:=cJ (DS hc ha) h
theorem Us{ops}{rest}{o}{hs h0}{A}{f}{args}{pargs}{v}(hc:ip P f pargs v)(ha:qW h0 args=some pargs)
  (h:@WD ⟨P,H,ops,rest,Q⟩ hs (A.put o.dst (.p v) A.h)):@HU ⟨P,H,ops,rest,Q,o⟩ hs h0 A (.call f args):=
 ⟨.p v,λ_ hs=>DS hc (GT hs ha),h⟩
theorem lY{α:Type}(n)(h)(f)(hf:∀x,fK (f x)=true):∀l:List α,aV (gS n h) (l.map λx=>.p (f x))=some (l.map f)
 |[]=>rfl
 |x::r=>by rw[bL,aV,lY n h f hf r,qE,if_pos (hf x)];rfl
theorem sF{α:Type}(n)(h)(f)(hf:∀x,fK (f x)=true)(m):∀l:List α,aV (gS n h) ((l.map λx=>.p (f x))++m)=(aV (gS n h) m).map (l.map f++·)
 |[]=>by cases hm:aV (gS n h) m<;>simp[hm]
 |x::r=>by
  rw[bL,eu,aV,sF n h f hf m r,qE,if_pos (hf x)];cases aV (gS n h) m<;>rfl
theorem EH{α:Type}(n)(h)(f)(hf:∀x,fK (f x)=true)(l:List α):aV (gS n h) ((l.map f).map .p)=some (l.map f):=by
 rw[uR];exact lY n h f hf l
theorem EI{α:Type}(n)(h)(f)(hf:∀x,fK (f x)=true)(m)(l:List α):aV (gS n h) ((l.map f).map .p++m)=(aV (gS n h) m).map (l.map f++·):=by
 rw[uR];exact sF n h f hf m l
attribute [go_sem] EH EI fK fK.flatL gS qE Fh lY sF
theorem DR{S}(hS:HOk P M0 S){id:Nat}{o}(ho:S.h[id]?=some o):bm S.h.length o:=by
 have:=hS.obj id o ho
 cases o with
 |row sz xs=>
  intro x hx;rcases this with⟨_,rfl⟩|⟨b,T,C,h1,h2,h3,h4⟩
  .cases hx
  .obtain⟨i,hi⟩:=dX hx;obtain⟨cs,h5,h6,h7⟩:=h4 i x hi;have one:∀c,cs=[c]->fk S.h.length c:=λc hc=>by
    subst hc;exact fo (h7 0 c rfl).2
   cases x with
   |p q=>exact trivial
   |agg l=>
    cases h5;intro c hc;obtain⟨j,hj⟩:=dX hc
    exact fo (h7 j c hj).2
   |tuple l=>cases h5
   |undef=>cases h5
   |ptr _ _ _ _=>cases h5;exact one _ rfl
   |slice _ _ _ _=>cases h5;exact one _ rfl
   |ref _ _=>cases h5;exact one _ rfl
   |func _ _ _=>cases h5;exact one _ rfl
 |loop n tmps ps assign body st pend=>
  obtain⟨b,r,h1,h2,h3,h4,h5⟩:=this
  exact λt=>Dv (h4 t)
 |strIter s p=>exact trivial
 |mp es=>exact trivial
 |memo f=>exact trivial
 |dblock=>exact trivial
 |bld T el x=>
  obtain⟨b,p,v,h1,h2,h3,h4,h5,h6⟩:=this
  exact gJ h5
 |dead=>exact trivial
theorem yV(hD:ea P){H}{f}{fn}{c}{args}{h}{v}{rs}{n}(hf:P.funcs[f]?=some fn)(hb:fn.body=some c)(hrs:fn.results.toList=rs)(hn:fn.ntmps=n)(hok:cC H fn=true)
  (hlen:args.length<=n) (hw:wp P H c (iW P rs h.length (λ_ r h'=>∃t,h'=h++t/\qX (List.replicate h.length .dead++t) r=some v)) (aZ n .no args h)):aD P f args h (λr h'=>r=.ret (.p v)/\h'=h):=by
 intro M0 m w cargs hS hargs;have:=jT hD (R:=λr h'=>∃t,h'=h++t/\qX (List.replicate h.length .dead++t) r=some v) hf hb hrs hn hok hlen hw M0 m w cargs hS hargs;refine⟨this.1,this.2.mono λe w' hh=>?_⟩;obtain⟨r,h',m',⟨t,rfl,hR⟩,hev,hk,hend⟩:=hh
 cases e with
 |returned v'=>
  cases r with
  |panic v=>cases hR
  |ret a=>
   have hkeep:∀(id:Nat) (o:AObj),id<h.length->(h++t)[id]?=some o->bm h.length o:=λid o hid ho=>by
    rw[aX hid]at ho;exact DR (S:=⟨m,h,w⟩) hS ho
   have hcut:=CB (S:=⟨m',h++t,w'⟩) hk (l:=h.length) hkeep;have ecut:Mem.cut ⟨m',h++t,w'⟩ h.length=⟨m'.take h.length,h,w'⟩:=by simp[Mem.cut]
   rw[ecut]at hcut;have e1:eU (λi=>!decide (h.length<=i)) (h++t)=List.replicate h.length .dead++t:=by
    apply uS;intro i;rw[qx];by_cases hi:i<h.length
    .rw[aX hi,aX (by simpa using hi),dc hi];have:decide (h.length<=i)=false:=by simpa using hi
     simp[this,hi]
    .rw[bW (by omega),bW (by simpa using KL hi)];have:decide (h.length<=i)=true:=by simpa using hi
     simp[this]
   have hrep:=Aa (S:=⟨m',h++t,w'⟩) hk (λi=>decide (h.length<=i)) (v:=v') (a:=a) (q:=v) hend (by rw[e1];exact hR);refine⟨.ret (.p v),h,m'.take h.length,⟨rfl,rfl⟩,⟨hev.fr,λb hb=>hev.sub b (tO hb),λid o hid ho=>?_⟩,hcut,?_⟩
   .have hid':id<h.length:=hid;obtain⟨o',h1,h2⟩:=hev.obj id o hid ho;refine⟨o',?_,?_⟩
    .have h1':(h++t)[id]?=some o':=h1;rw[aX hid']at h1';exact h1'
    .have:(m'.take h.length).getD id none=m'.getD id none:=by
      rw[cd,cd,pg,if_pos hid']
     show ObjEv _ _ ((m'.take h.length).getD id none) _;rw[this];exact h2
   .exact RepP.less hrep λb hb=>by
     rcases hb with hb|hb
     .exact .inl hb
     .obtain⟨i,hi⟩:=dX hb;rw[pg]at hi;split at hi
      .rename_i hil;refine .inr (aG (i:=i) ?_);rw[xt,hi];have:decide (h.length<=i)=false:=by simpa using hil
       simp[this]
      .cases hi
 |panicked ch=>
  cases r with
  |panic v=>cases hR
  |ret a=>exact hend.elim
 |outgrown=>exact hend.elim
theorem F5(n)(t)(j):(List.replicate n AObj.dead++t)[n+j]?=t[j]?:=by rw[bW (by simp)];simp
theorem M2(n)(t):(List.replicate n AObj.dead++t)[n]?=t[0]?:=F5 n t 0
attribute [go_sem] F5 M2
section
variable {α τ:Type}
theorem Rp{x}{A}(live)(l)(hl:l.length<1000000000)(Inv:List α->List α->τ->Prop)(M)(hp)(t0)(hi:Inv [] l t0)
  (hh:A.h=hp [] t0) (h0:∀p,p∈bY A.tmps live (M [] t0)->A.tmps p.1=p.2)
  (hnil:∀t,Inv l [] t->@W ⟨P,H,x,ep (gu P (pw l Inv) (λs=>fq A live (iv M s) (iv hp s)) (λs=>s.2.1.length) (l,[],t)) Q⟩
   {n:=A.n,bs:=A.bs,rc:=A.rc,tmps:=cX (bY A.tmps live (M l t)),h:=hp l t,df:=A.df })
  (hcons:∀done y r t,l=done++y::r->Inv done (y::r) t->l[done.length]?=some y->((done.length:Int)<(l.length:Int))->IntKind.i64.wrap ((done.length:Int)+1)=(((done++[y]).length:Nat):Int) ->
   @W ⟨P,H,x,ep (gu P (pw l Inv) (λs=>fq A live (iv M s) (iv hp s)) (λs=>s.2.1.length) (done,y::r,t)) Q⟩
    {n:=A.n,bs:=A.bs,rc:=A.rc,tmps:=cX (bY A.tmps live (M done t)),h:=hp done t,df:=A.df }):@W ⟨P,H,.loop x,Q⟩ A:=by
 refine eC live (pw l Inv) (λs=>s.2.1.length) (iv M) (iv hp) ([],l,t0) ⟨rfl,hi⟩ hh h0 ?_
 rintro⟨done,rest,t⟩ ⟨e1,e2⟩
 dsimp only at e1 e2
 cases rest with
 |nil=>
  rw[bC]at e1;subst e1
  exact hnil t e2
 |cons y r=>
  have hlen:done.length<l.length:=by rw[e1];simp
  have hg:l[done.length]?=some y:=by rw[e1];simp
  refine hcons done y r t e1 e2 hg (by omega) ?_;have e:((done.length:Int)+1)=(((done++[y]).length:Nat):Int):=by simp
  rw[e];exact IntWalk.i64_in _ ⟨by omega,by simp<;>omega⟩
theorem Rr{l}{Inv:List α->List α->τ->Prop}{M}{hp}{live}{done r}{y}{t}{A B}
  (e1:l=done++y::r) (t') (hinv:Inv (done++[y]) r t') (hh:B.h=hp (done++[y]) t') (h3:∀p,p∈bY A.tmps live (M (done++[y]) t')->B.tmps p.1=p.2)
  (hn:B.n=A.n:=by rfl) (hb:B.bs=A.bs:=by rfl) (hr:B.rc=A.rc:=by rfl) (hd:B.df=A.df:=by rfl) :
  @WQ ⟨ep (gu P (pw l Inv) (λs=>fq A live (iv M s) (iv hp s)) (λs=>s.2.1.length) (done,y::r,t)) Q⟩ .normal B:=
 ⟨(done++[y],r,t'),⟨by simp[e1],hinv⟩,by simp,u4 hn hb hr hd hh h3⟩
end
attribute [go_sem] AZ Nm Lj
end Abs
end Go.Proofs.YtoapoaoelpcniaaGreatDoor
namespace Go.Proofs.YtoapoaoelpcniaaGreatDoor
namespace Abs
variable {P:Program}
inductive PL:PV->PV->Prop
 |refl (v:PV):PL v v
 |nil (sz:Nat):PL .nilslice (.slice sz [] false)
 |agg {a b:List PV} (hl:a.length=b.length) (hc:∀c,c∈b->c.isCell=true) (h:∀(i:Nat) (q c:PV),a[i]?=some q->b[i]?=some c->PL q c):PL (.agg a) (.agg b)
 |slice {sz:Nat} {xs ys:List PV} {full:Bool} (hl:xs.length=ys.length) (hc:∀y,y∈ys->y.cells.length=sz/\∀c,c∈y.cells->c.isCell=true) (h:∀(i:Nat) (q c:PV),xs[i]?=some q->ys[i]?=some c->PL q c) :
   PL (.slice sz xs full) (.slice sz ys false)
 |tuple {a b:List PV} (hl:a.length=b.length) (h:∀(i:Nat) (q c:PV),a[i]?=some q->b[i]?=some c->PL q c):PL (.tuple a) (.tuple b)
theorem PL.cells{q v}(h:PL q v):q.cells.length=v.cells.length/\∀(j:Nat) (c d),q.cells[j]?=some c->v.cells[j]?=some d->PL c d:=by
 cases h with
 |refl v=>exact⟨rfl,λj c d h1 h2=>by rw[h1]at h2;cases h2;exact .refl _⟩
 |nil sz=>exact⟨rfl,λj c d h1 h2=>by cases j<;>cases h1;cases h2;exact .nil sz⟩
 |agg hl hc h=>exact⟨hl,h⟩
 |slice hl hc h=>exact⟨rfl,λj c d h1 h2=>by cases j<;>cases h1;cases h2;exact .slice hl hc h⟩
 |tuple hl h=>exact⟨rfl,λj c d h1 h2=>by cases j<;>cases h1;cases h2;exact .tuple hl h⟩
theorem PL.single{q y}(h:PL q y)(hq:∀l,q≠.agg l):y.cells=[y]:=by
 cases h with
 |refl v=>cases q with
  |agg l=>exact absurd rfl (hq l)
  |_=>rfl
 |nil _=>rfl
 |agg _ _ _=>exact absurd rfl (hq _)
 |slice _ _ _=>rfl
 |tuple _ _=>rfl
theorem PL.rep{M}{w}{q v}(h:PL q v):∀{u},RepP M w u q->RepP M w u v:=by
 induction h with
 |refl v=>intro u hr;exact hr
 |nil sz=>intro u hr;cases hr;exact .empty (by simp)
 |@agg a b hl hc h ih=>
  intro u hr
  cases hr with
  |agg hn hs hr=>
   refine .agg (by omega) hc λi c hi=>?_;have hlt:i<a.length:=by have:=(aF.1 hi).1;omega
   exact ih i _ c (dc hlt) hi (hr i _ (dc hlt))
 |@tuple a b hl h ih=>
  intro u hr
  cases hr with
  |tuple hn hr=>
   refine .tuple (by omega) λi c hi=>?_;have hlt:i<a.length:=by have:=(aF.1 hi).1;omega
   exact ih i _ c (dc hlt) hi (hr i _ (dc hlt))
 |@slice sz xs ys full hl hc h ih=>
  intro u hr
  cases hr with
  |empty hf=>
   have:ys=[]:=yi.1 hl.symm;subst this
   exact .empty (by simp)
  |slice f hlen hcap hfull hsz hm hcell hrep=>
   rw[hl]at hm hcell;refine .slice f (by omega) hcap (by simp) hc hm hcell λi j y c hy hj=>?_;have hlt:i<xs.length:=by have:=(aF.1 hy).1;omega
   have hx:xs[i]?=some xs[i]:=dc hlt;have hp:=h i _ y hx hy;obtain⟨g1,g2⟩:=hp.cells;have hsx:=hsz _ (Av hlt);have hsy:=hc y (aG hy)
   cases hxx:xs[i] with
   |agg a=>
    rw[hxx]at hp hsx hx;obtain⟨b,rfl⟩:∃b,y=.agg b:=by
     generalize hq:PV.agg a=q at hp
     cases hp with
     |refl v=>exact⟨a,hq.symm⟩
     |agg _ _ _=>exact⟨_,rfl⟩
     |nil _=>cases hq
     |slice _ _ _=>cases hq
     |tuple _ _=>cases hq
    have hv:RepP M w (.agg (Array.ofFn λk:Fin sz=>f (i*sz+k.val))) (.agg a):=by
     refine .agg (by have:=hsx.1;simp[PV.cells]at this;simp[this]) hsx.2 λk c hk=>?_;have hk':k<sz:=by have:=(aF.1 hk).1;have:=hsx.1;simp[PV.cells]at this;omega
     have:=hrep i k (.agg a) c hx hk;simpa[hk']using this
    have hv2:=ih i _ _ hx hy hv
    cases hv2 with
    |agg hn hs hr2=>
     have hk':j<sz:=by have:=(aF.1 hj).1;have:=hsy.1;omega
     have:=hr2 j c hj
     simpa[hk']using this
   |_=>
    have hyc:y.cells=[y]:=hp.single λl=>by rw[hxx];simp
    have hxc:xs[i].cells=[xs[i]]:=by rw[hxx];rfl
    rw[hyc]at hj
    cases j with
    |zero=>
     cases hj
     exact ih i _ _ hx hy (hrep i 0 _ _ hx (by rw[hxc];rfl))
    |succ j=>cases hj
theorem af.lessD{f}{args}{q v}(hc:af P f args q)(h:PL q v):af P f args v:=by
 intro M0 w cargs hM hg ha;obtain⟨h1,h2⟩:=hc M0 w cargs hM hg ha;refine⟨h1,h2.mono λe w' he=>?_⟩;obtain⟨v',rfl,hv,hfr⟩:=he;exact⟨v',rfl,h.rep hv,hfr⟩
def B2:List PV->List PV->Prop
 |[],[]=>True
 |q::a,c::b=>PL q c/\B2 a b
 |_,_=>False
theorem B2.get:∀{a b},B2 a b->a.length=b.length/\∀(i:Nat) (q c),a[i]?=some q->b[i]?=some c->PL q c
 |[],[],_=>⟨rfl,by simp⟩
 |q::a,c::b,h=>by
  obtain⟨h1,h2⟩:=B2.get h.2;refine⟨by simp[h1],λi x y hx hy=>?_⟩
  cases i with
  |zero=>cases hx;cases hy;exact h.1
  |succ i=>exact h2 i x y (by simpa using hx) (by simpa using hy)
 |[],_::_,h=>h.elim
 |_::_,[],h=>h.elim
def fZ (l:List PV):Bool:=l.all PV.isCell
def VD (sz:Nat) (l:List PV):Bool:=l.all λy=>y.cells.length==sz&&y.cells.all PV.isCell
theorem PL.aggL{a b}(hc:fZ b=true)(h:B2 a b):PL (.agg a) (.agg b):=.agg h.get.1 (λc hcb=>lm.1 hc c hcb) h.get.2
theorem PL.sliceL{sz}{xs ys}{full}(hc:VD sz ys=true)(h:B2 xs ys):PL (.slice sz xs full) (.slice sz ys false):=
 .slice h.get.1 (λy hy=>by
  have:=lm.1 hc y hy;simp at this
  exact⟨this.1,λc hc=>this.2 c hc⟩) h.get.2
theorem PL.tupleL{a b}(h:B2 a b):PL (.tuple a) (.tuple b):=.tuple h.get.1 h.get.2
end Abs
end Go.Proofs.YtoapoaoelpcniaaGreatDoor
namespace Go.Proofs.YtoapoaoelpcniaaGreatDoor
namespace Abs
variable {P:Program} {M0:Nat->Prop}
theorem IJ{f}{args}{h}{R}(k:(∀o,o∈h->bm h.length o)->aD P f args h R):aD P f args h R:=by
 intro M0 m w cargs hS hargs;refine k (λo ho=>?_) M0 m w cargs hS hargs;obtain⟨i,hi⟩:=dX ho;exact DR (S:=⟨m,h,w⟩) hS hi
def Cp:AEnd->Prop
 |.ret (.p _)=>True
 |.panic _=>True
 |_=>False
theorem Bq(hD:ea P){H}{f}{fn}{c}{args}{h}{R}{rs}{n}(hf:P.funcs[f]?=some fn)(hb:fn.body=some c)(hrs:fn.results.toList=rs)(hn:fn.ntmps=n)(hok:cC H fn=true)
  (hlen:args.length<=n) (hw:wp P H c (iW P rs h.length (λ_ r h''=>∃h' t,h''=h'++t/\h'.length=h.length/\(∀o,o∈h'->bm h'.length o)/\Cp r/\R r h')) (aZ n .no args h)):aD P f args h R:=by
 intro M0 m w cargs hS hargs;have:=jT hD (R:=λr h''=>∃h' t,h''=h'++t/\h'.length=h.length/\(∀o,o∈h'->bm h'.length o)/\Cp r/\R r h') hf hb hrs hn hok hlen hw M0 m w cargs hS hargs;refine⟨this.1,this.2.mono λe w' hh=>?_⟩;obtain⟨r,h'',m',⟨h',t,rfl,hl,hbel,hp,hR⟩,hev,hk,hend⟩:=hh;have hkeep:∀(id:Nat) (o:AObj),id<h'.length->(h'++t)[id]?=some o->bm h'.length o:=λid o hid ho=>by
  rw[aX hid]at ho;exact hbel o (aG ho)
 have hcut:=CB (S:=⟨m',h'++t,w'⟩) hk (l:=h'.length) hkeep;have ecut:Mem.cut ⟨m',h'++t,w'⟩ h'.length=⟨m'.take h'.length,h',w'⟩:=by simp[Mem.cut]
 rw[ecut]at hcut;have hav:∀b,Avoid M0 (m'.take h'.length) b->Avoid M0 m' b:=λb hb=>by
  rcases hb with hb|hb
  .exact .inl hb
  .exact .inr (tO hb)
 refine⟨r,h',m'.take h'.length,hR,⟨hev.fr,λb hb=>hev.sub b (tO hb),λid o hid ho=>?_⟩,hcut,?_⟩
 .have hid':id<h'.length:=by rw[hl];exact hid
  obtain⟨o',h1,h2⟩:=hev.obj id o hid ho;refine⟨o',?_,?_⟩
  .have h1':(h'++t)[id]?=some o':=h1;rw[aX hid']at h1';exact h1'
  .have:(m'.take h'.length).getD id none=m'.getD id none:=by
    rw[cd,cd,pg,if_pos hid']
   show ObjEv _ _ ((m'.take h'.length).getD id none) _;rw[this];exact h2
 .cases e with
  |returned v'=>
   cases r with
   |panic v=>exact hend.elim
   |ret a=>
    cases a<;>first|exact hp.elim|skip
    rename_i v
    exact RepP.less (show RepP (Avoid M0 m') w' v' v from hend) hav
  |panicked ch=>
   cases r with
   |ret a=>exact hend.elim
   |panic v=>
    obtain⟨v',h1,h2⟩:=hend
    exact⟨v',h1,RepP.less (show RepP (Avoid M0 m') w' v' v from h2) hav⟩
  |outgrown=>exact hend.elim
theorem cN{n m}(h:n<=m):∀{a},ei n a->ei m a:=by
 intro a;cases a<;>simp only[ei]<;>first|exact id|omega
theorem Eg{n m}(h:n<=m){a}(k:fk n a):fk m a:=by
 cases a with
 |func fn first cap=>exact⟨λc hc=>cN h (k.1 c hc),λc hc=>cN h (k.2 c hc)⟩
 |p v=>exact trivial
 |ptr id ver i o=>exact cN (a:=.ptr id ver i o) h k
 |slice id ver i o=>exact cN (a:=.slice id ver i o) h k
 |agg cs=>exact cN (a:=.agg cs) h k
 |tuple cs=>exact cN (a:=.tuple cs) h k
 |ref q id=>exact cN (a:=.ref q id) h k
 |undef=>exact cN (a:=.undef) h k
theorem OL{n m}(h:n<=m){a}(k:gy n a):gy m a:=by
 cases a with
 |agg cs=>exact λc hc=>Eg h (k c hc)
 |func fn first cap=>exact⟨λc hc=>cN h (k.1 c hc),λc hc=>cN h (k.2 c hc)⟩
 |p v=>exact trivial
 |ptr id ver i o=>exact cN (a:=.ptr id ver i o) h k
 |slice id ver i o=>exact cN (a:=.slice id ver i o) h k
 |tuple cs=>exact cN (a:=.tuple cs) h k
 |ref q id=>exact cN (a:=.ref q id) h k
 |undef=>exact cN (a:=.undef) h k
theorem Hz{n m}(h:n<=m){a}(k:below n a):below m a:=by
 cases a with
 |tuple cs=>exact λc hc=>OL h (k c hc)
 |agg cs=>exact λc hc=>Eg h (k c hc)
 |func fn first cap=>exact⟨λc hc=>cN h (k.1 c hc),λc hc=>cN h (k.2 c hc)⟩
 |p v=>exact trivial
 |ptr id ver i o=>exact cN (a:=.ptr id ver i o) h k
 |slice id ver i o=>exact cN (a:=.slice id ver i o) h k
 |ref q id=>exact cN (a:=.ref q id) h k
 |undef=>exact cN (a:=.undef) h k
theorem Ix{n m}(h:n<=m){o}(k:bm n o):bm m o:=by
 cases o with
 |row sz xs=>exact λx hx=>Hz h (k x hx)
 |loop n tmps ps assign body st pend=>exact λt=>Hz h (k t)
 |bld T e x=>exact cN h k
 |_=>exact trivial
end Abs
end Go.Proofs.YtoapoaoelpcniaaGreatDoor
namespace Go.Proofs.YtoapoaoelpcniaaGreatDoor
namespace Abs
variable {fn:Func} {nm og:String} {ta ps rt:Array TypeId} {nf n el:Nat} {rs:List ResultVar} {c:Code} {nr ou:Bool} {fl:String} {ln:Option Nat} {mt:List Departure} {tn:Array String} {H:Hints} {f:FuncId} {pargs:List PV} {args:List AV} {h:Heap}
abbrev sW (H:Hints) (f:FuncId) (fn:Func) (n:Nat) (rs:List ResultVar) (c:Code):Prop:=TP.funcs[f]?=some fn/\fn.body=some c/\fn.results.toList=rs/\fn.ntmps=n/\cC H fn=true
theorem eg(hf:TP.funcs[f]?=some fn)(he:fn=⟨nm,og,ta,ps,rt,nf,n,⟨rs⟩,some c,nr,ou,fl,el,ln,mt,tn⟩)(hok:cC H fn=true):sW H f fn n rs c:=by
 subst he;exact⟨hf,rfl,rfl,rfl,hok⟩
theorem ah(hf:TP.funcs[f]?=some fn)(he:fn=⟨nm,og,ta,ps,rt,nf,n,⟨rs⟩,some c,nr,ou,fl,el,ln,mt,tn⟩)(hok:cC H0 fn=true):sW H0 f fn n rs c:=eg hf he hok
theorem Gf{v:PV}(k:sW H f fn n rs c)(hl:Nat.ble pargs.length n=true)(hw:SW TP H c (iW TP rs 0 (λ_ r _=>r=.ret (.p v))) (aZ n .no (pargs.map .p) [])):af TP f pargs v:=
 let ⟨a,b,d,e,g⟩:=k;y6 bI a b d e g (r7 hl) hw
theorem aa{v:PV}(k:sW H f fn n rs c)(hl:Nat.ble pargs.length n=true)(hw:wp TP H c (iW TP rs 0 (λ_ r _=>r=.ret (.p v))) (aZ n .no (pargs.map .p) [])):af TP f pargs v:=
 let ⟨a,b,d,e,g⟩:=k;Iu bI a b d e g (r7 hl) hw
theorem dg{v:PV}(k:sW H f fn n rs c)(hl:Nat.ble pargs.length n=true)(hw:wp TP H c (iW TP rs 0 (λ_ r h=>qX h r=some v)) (aZ n .no (pargs.map .p) [])):af TP f pargs v:=
 let ⟨a,b,d,e,g⟩:=k;AT bI a b d e g (r7 hl) hw
theorem dj{v:PV}(k:sW H f fn n rs c)(hl:Nat.ble pargs.length n=true)(hw:wp TP H c (iW TP rs 0 (λ_ r h=>∃q,qX h r=some q/\sT q v)) (aZ n .no (pargs.map .p) [])):af TP f pargs v:=
 let ⟨a,b,d,e,g⟩:=k;zO bI a b d e g (r7 hl) hw
theorem gb{v:PV}(k:sW H f fn n rs c)(hl:Nat.ble pargs.length n=true)(hw:wp TP H c (iW TP rs 0 (λ_ r h=>Fh h r=some v)) (aZ n .no (pargs.map .p) [])):ip TP f pargs v:=
 let ⟨a,b,d,e,g⟩:=k;Gg bI a b d e g (r7 hl) hw
theorem aC{R:AEnd->Heap->Prop}(k:sW H f fn n rs c)(hl:Nat.ble args.length n=true)(hw:wp TP H c (iW TP rs h.length (λ_=>R)) (aZ n .no args h)):aD TP f args h R:=
 let ⟨a,b,d,e,g⟩:=k;jT bI a b d e g (r7 hl) hw
theorem fY{u:AMode}{R:AEnd->AMode->Heap->Prop}(k:sW H f fn n rs c)(hl:Nat.ble args.length n=true)(hw:wp TP H c (iW TP rs h.length (λrc r h'=>R r (iS u rc) h')) (aZ n (ol u) args h)):j3 TP f args u h R:=
 let ⟨a,b,d,e,g⟩:=k;IL bI a b d e g (r7 hl) hw
theorem qz{v:PV}(k:sW H f fn n rs c)(hl:Nat.ble args.length n=true)(hw:wp TP H c (iW TP rs h.length (λ_ r h'=>∃t,h'=h++t/\qX (List.replicate h.length .dead++t) r=some v)) (aZ n .no args h)):aD TP f args h (λr h'=>r=.ret (.p v)/\h'=h):=
 let ⟨a,b,d,e,g⟩:=k;yV bI a b d e g (r7 hl) hw
theorem bN{R:AEnd->Heap->Prop}(k:sW H f fn n rs c)(hl:Nat.ble args.length n=true)(hw:wp TP H c (iW TP rs h.length (λ_ r h''=>∃h' t,h''=h'++t/\h'.length=h.length/\(∀o,o∈h'->bm h'.length o)/\Cp r/\R r h')) (aZ n .no args h)):aD TP f args h R:=
 let ⟨a,b,d,e,g⟩:=k;Bq bI a b d e g (r7 hl) hw
end Abs
end Go.Proofs.YtoapoaoelpcniaaGreatDoor
namespace Go.Proofs.YtoapoaoelpcniaaGreatDoor
open Go.ChangeShapes Go.WideShapes Go.ChangeAt Go.RowKit
namespace Abs
set_option maxRecDepth 100000
theorem Fd:ownKnob TP.godebug=none:=by kernel_rfl
theorem laid:laidOutB TP=true:=by kernel_rfl
def Ms (t:TypeId):Prop:=sw TP 8 t=true/\TP.readableRec t=true/\t<TP.types.size
theorem Ff:Ms 41:=⟨by kernel_rfl,by kernel_rfl,of_decide_eq_true (by kernel_rfl)⟩
theorem Fe:Ms 42:=⟨by kernel_rfl,by kernel_rfl,of_decide_eq_true (by kernel_rfl)⟩
theorem Xg:Ms 69:=⟨by kernel_rfl,by kernel_rfl,of_decide_eq_true (by kernel_rfl)⟩
theorem Xf:Ms 86:=⟨by kernel_rfl,by kernel_rfl,of_decide_eq_true (by kernel_rfl)⟩
def aq:List (String×DataW Unit):=Rows.chandlerPureRow.laid
theorem plain:∀W,laidMetH TP aq W->laidMet TP aq W:=λW h=>by
 rw[MakeChecks.laidMetH_plain _ _ _ (by kernel_rfl)]at h;exact h
theorem Xx:aq.filter (λx=>x.1 == "internal/strconv.uint64pow10")=[("internal/strconv.uint64pow10", Lib.tabData .u64 Lib.pow10Tab)]:=by rfl
theorem Xw:aq.filter (λx=>x.1 == "strconv.ErrSyntax")=[("strconv.ErrSyntax", Rows.laid_strconv_ErrSyntax)]:=by rfl
theorem Xv:aq.filter (λx=>x.1 == "strconv.ErrRange")=[("strconv.ErrRange", Rows.laid_strconv_ErrRange)]:=by rfl
theorem Z3:∃ms,TP.underlying 175=some (.interface ms):=⟨_,rfl⟩
theorem AM{W:World}{name nm:String}{d:DataW Unit}{g:Nat}(hg:TP.globalNamed name=some g)(ht:(TP.globals[g]?).map (·.type)=some 175)
  (h:laidMet TP [(name,.iface nm d)] W):∃tp p,W.var? TP name=some #[.iface tp p]:=by
 obtain⟨ps,⟨g',t',cs,fuel,p,q,hg',ht',hvar,hd,_,_⟩,_⟩:=h;obtain rfl:=lq (hg.symm.trans hg');obtain rfl:=lq (ht.symm.trans ht');obtain⟨ms,hms⟩:=Z3;obtain⟨f1,u,v,hcs,_,_⟩:=iface_of_trod hms hd;refine⟨u,v,?_⟩;rw[hvar]
 congr 1
 apply Array.ext';simpa using hcs
theorem RS{W:World}(h0:laidMetH TP aq W):wC TP W:=by
 have h:=plain W h0;refine⟨λb hb=>?_,λb hb=>?_,λb hb=>?_⟩
 .have:=h.filter (λx=>x.1 == "internal/strconv.uint64pow10");rw[Xx]at this;exact Lib.tabIs_of_head (g:=1) (t:=388) (e:=320) (n:=20) (by kernel_rfl) (by kernel_rfl) (by kernel_rfl) (by kernel_rfl) (by kernel_rfl) (by kernel_rfl) this
 .have:=h.filter (λx=>x.1 == "strconv.ErrSyntax");rw[Xw]at this;exact AM (g:=4) (by kernel_rfl) (by kernel_rfl) this
 .have:=h.filter (λx=>x.1 == "strconv.ErrRange");rw[Xv]at this;exact AM (g:=5) (by kernel_rfl) (by kernel_rfl) this
structure Span where
 lo:Int
 hi:Int
def aI (n:Int):PV:=.int .i64 n
def Span.pv (s:Span):PV:=.agg [.int .i64 s.lo,.int .i64 s.hi]
attribute [go_sem] aI Span.pv
structure HrKind where
 name:ByteArray
 weight:Span
 rest:Int
structure HrRule where
 name:ByteArray
 minutes:Span
 weight:Span
structure HrMark where
 minute:Int
 weight:Int
 deriving DecidableEq
structure HrTest where
 kind:Int
 error:Int
 marks:List HrMark
structure HrShop where
 kinds:List HrKind
 rules:List HrRule
 margin:Int
structure HrBox where
 kind:Int
 hours:Int
def HrKind.pv (k:HrKind):PV:=.agg [.str k.name,.int .i64 k.weight.lo,.int .i64 k.weight.hi,.int .i64 k.rest]
def HrRule.pv (r:HrRule):PV:=.agg [.str r.name,.int .i64 r.minutes.lo,.int .i64 r.minutes.hi,.int .i64 r.weight.lo,.int .i64 r.weight.hi]
def HrMark.pv (m:HrMark):PV:=.agg [.int .i64 m.minute,.int .i64 m.weight]
def HrTest.pv (t:HrTest):PV:=.agg [.int .i64 t.kind,.int .i64 t.error,.slice 2 (t.marks.map HrMark.pv) false]
def HrShop.pv (s:HrShop):PV:=.agg [.slice 4 (s.kinds.map HrKind.pv) false,.slice 5 (s.rules.map HrRule.pv) false,.int .i64 s.margin]
def HrBox.pv (b:HrBox):PV:=.agg [.int .i64 b.kind,.int .i64 b.hours]
attribute [go_sem] HrKind.pv HrRule.pv HrMark.pv HrTest.pv HrShop.pv HrBox.pv
structure Wick where
 name:ByteArray
 threads:Int
 pull:Span
structure Wax where
 name:ByteArray
 flow:Span
 rise:Span
 spread:Span
 chill:Int
structure Shop where
 wicks:List Wick
 waxes:List Wax
 flame:Span
 pool:Span
structure Candle where
 wax:Int
 diameter:Int
 draught:Int
 cold:Span
structure Truth where
 pull:Int
 flow:Int
 rise:Int
 spread:Int
 draught:Int
 cold:Int
structure Burn where
 rate:Int
 flame:Int
 pool:Int
def Wick.pv (x:Wick):PV:=.agg [.str x.name,.int .i64 x.threads,.int .i64 x.pull.lo,.int .i64 x.pull.hi]
def Wax.pv (x:Wax):PV:=.agg [.str x.name,.int .i64 x.flow.lo,.int .i64 x.flow.hi,.int .i64 x.rise.lo,.int .i64 x.rise.hi,.int .i64 x.spread.lo,.int .i64 x.spread.hi,.int .i64 x.chill]
def Shop.pv (s:Shop):PV:=.agg [.slice 4 (s.wicks.map Wick.pv) false,.slice 8 (s.waxes.map Wax.pv) false,.int .i64 s.flame.lo,.int .i64 s.flame.hi,.int .i64 s.pool.lo,.int .i64 s.pool.hi]
def Candle.pv (c:Candle):PV:=.agg [.int .i64 c.wax,.int .i64 c.diameter,.int .i64 c.draught,.int .i64 c.cold.lo,.int .i64 c.cold.hi]
def Truth.pv (t:Truth):PV:=.agg [.int .i64 t.pull,.int .i64 t.flow,.int .i64 t.rise,.int .i64 t.spread,.int .i64 t.draught,.int .i64 t.cold]
def Burn.pv (b:Burn):PV:=.agg [.int .i64 b.rate,.int .i64 b.flame,.int .i64 b.pool]
attribute [go_sem] Wick.pv Wax.pv Shop.pv Candle.pv Truth.pv Burn.pv
structure BdPoint where
 parts:Int
 add:Int
structure BdWax where
 name:ByteArray
 price:Int
 melt:Span
 shrink:Span
 curve:List BdPoint
structure BdWish where
 parts:List Span
 melt:Span
 shrink:Span
structure BdLot where
 melt:Int
 shrink:Int
def BdPoint.pv (p:BdPoint):PV:=.agg [.int .i64 p.parts,.int .i64 p.add]
def BdWax.pv (x:BdWax):PV:=.agg [.str x.name,.int .i64 x.price,.int .i64 x.melt.lo,.int .i64 x.melt.hi,.int .i64 x.shrink.lo,.int .i64 x.shrink.hi,.slice 2 (x.curve.map BdPoint.pv) false]
def BdWish.pv (w:BdWish):PV:=.agg [.slice 2 (w.parts.map Span.pv) false,.int .i64 w.melt.lo,.int .i64 w.melt.hi,.int .i64 w.shrink.lo,.int .i64 w.shrink.hi]
def BdLot.pv (x:BdLot):PV:=.agg [.int .i64 x.melt,.int .i64 x.shrink]
def f' (l:List BdWax):PV:=.slice 7 (l.map BdWax.pv) false
def Z0 (l:List Int):PV:=.slice 1 (l.map aI) false
def Wq (l:List BdLot):PV:=.slice 2 (l.map BdLot.pv) false
attribute [go_sem] BdPoint.pv BdWax.pv BdWish.pv BdLot.pv f' Z0 Wq
structure WxProp where
 name:ByteArray
 error:Int
structure WxKind where
 name:ByteArray
 props:List Span
structure WxTable where
 props:List WxProp
 kinds:List WxKind
 purity:Int
def WxProp.pv (p:WxProp):PV:=.agg [.str p.name,.int .i64 p.error]
def WxKind.pv (k:WxKind):PV:=.agg [.str k.name,.slice 2 (k.props.map Span.pv) false]
def WxTable.pv (t:WxTable):PV:=.agg [.slice 2 (t.props.map WxProp.pv) false,.slice 2 (t.kinds.map WxKind.pv) false,.int .i64 t.purity]
attribute [go_sem] WxProp.pv WxKind.pv WxTable.pv
structure ClColour where
 name:ByteArray
 stay:Span
 shows:List Int
structure ClShop where
 colours:List ClColour
 keep:Span
 rinse:Int
structure ClBatch where
 colour:Int
 grams:Int
def ClColour.pv (c:ClColour):PV:=.agg [.str c.name,.int .i64 c.stay.lo,.int .i64 c.stay.hi,.slice 1 (c.shows.map aI) false]
def ClShop.pv (s:ClShop):PV:=.agg [.slice 4 (s.colours.map ClColour.pv) false,.int .i64 s.keep.lo,.int .i64 s.keep.hi,.int .i64 s.rinse]
def ClBatch.pv (b:ClBatch):PV:=.agg [.int .i64 b.colour,.int .i64 b.grams]
attribute [go_sem] ClColour.pv ClShop.pv ClBatch.pv
structure ChShop where
 wax:WxTable
 blend:List BdWax
 wick:Shop
 hour:HrShop
 colour:ClShop
structure ChLot where
 name:ByteArray
 kind:Int
 grams:Int
 readings:List Int
structure ChBatch where
 name:ByteArray
 colour:Int
 lot:Int
 grams:Int
structure ChBooks where
 lots:List ChLot
 batches:List ChBatch
 tests:List HrTest
 boxes:List HrBox
 poured:Int
 lost:Int
def ChShop.cells (s:ChShop):List PV:=
 [.slice 2 (s.wax.props.map WxProp.pv) false,.slice 2 (s.wax.kinds.map WxKind.pv) false,.int .i64 s.wax.purity,f' s.blend,
  .slice 4 (s.wick.wicks.map Wick.pv) false,.slice 8 (s.wick.waxes.map Wax.pv) false,.int .i64 s.wick.flame.lo,.int .i64 s.wick.flame.hi,.int .i64 s.wick.pool.lo,.int .i64 s.wick.pool.hi,
  .slice 4 (s.hour.kinds.map HrKind.pv) false,.slice 5 (s.hour.rules.map HrRule.pv) false,.int .i64 s.hour.margin,
  .slice 4 (s.colour.colours.map ClColour.pv) false,.int .i64 s.colour.keep.lo,.int .i64 s.colour.keep.hi,.int .i64 s.colour.rinse]
def ChShop.pv (s:ChShop):PV:=.agg s.cells
def ChLot.pv (l:ChLot):PV:=.agg [.str l.name,.int .i64 l.kind,.int .i64 l.grams,.slice 1 (l.readings.map aI) false]
def ChBatch.pv (b:ChBatch):PV:=.agg [.str b.name,.int .i64 b.colour,.int .i64 b.lot,.int .i64 b.grams]
def ChBooks.cells (b:ChBooks):List PV:=[.slice 4 (b.lots.map ChLot.pv) false,.slice 4 (b.batches.map ChBatch.pv) false,.slice 3 (b.tests.map HrTest.pv) false,.slice 2 (b.boxes.map HrBox.pv) false,.int .i64 b.poured,.int .i64 b.lost]
def ChBooks.pv (b:ChBooks):PV:=.agg b.cells
attribute [go_sem] ChShop.cells ChShop.pv ChLot.pv ChBatch.pv ChBooks.cells ChBooks.pv
end Abs
end Go.Proofs.YtoapoaoelpcniaaGreatDoor
