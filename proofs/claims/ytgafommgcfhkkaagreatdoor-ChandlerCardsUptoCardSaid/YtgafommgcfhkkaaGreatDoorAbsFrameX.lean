/- CONTRACTS of functions and laws. No conditions but those in the heads. -/
import Derived.Test.YtgafommgcfhkkaaGreatDoorHrRndX
set_option linter.all false
set_option maxHeartbeats 4000000
open Go.Proofs.Tryz renaming prog->TP
open Go.Proofs.Tryz
open Go.IntKind (i64)
namespace Go.Proofs.YtgafommgcfhkkaaGreatDoor
namespace Abs
variable {P:Program} {M0 M1:Nat->Prop}
def sf (p:Nat->Prop):AV->Prop
 |.ptr id _ _ _=>p id
 |.slice id _ _ _=>p id
 |.ref _ id=>p id
 |_=>True
def tI (p:Nat->Prop):AV->Prop
 |.func _ first cap=>(∀c,c∈first->sf p c)/\∀c,c∈cap->sf p c
 |a=>sf p a
def uY (p:Nat->Prop):AV->Prop
 |.agg cs=>∀c,c∈cs->tI p c
 |a=>tI p a
def ids (p:Nat->Prop):AV->Prop
 |.tuple cs=>∀c,c∈cs->uY p c
 |a=>uY p a
def rK (p:Nat->Prop):AObj->Prop
 |.row _ xs=>∀x,x∈xs->ids p x
 |.loop _ tmps _ _ _ _ _=>∀t,ids p (tmps t)
 |.bld _ _ x=>sf p x
 |_=>True
def l'{n}{a}(h:fb n a):sf (·<n) a:=by
 cases a<;>first|exact h|exact trivial
def CV{n}{a}(h:gn n a):tI (·<n) a:=by
 cases a<;>first|exact h|exact trivial|exact⟨λc e=>l' (h.1 c e),λc e=>l' (h.2 c e)⟩
def Nq{n}{a}(h:iD n a):uY (·<n) a:=by
 cases a<;>first|exact h|exact trivial|exact λc e=>CV (h c e)|exact⟨λc e=>l' (h.1 c e),λc e=>l' (h.2 c e)⟩
def yH{n}{a}(h:below n a):ids (·<n) a:=by
 cases a<;>first|exact h|exact trivial|exact λc e=>Nq (h c e)|exact λc e=>CV (h c e)|exact⟨λc e=>l' (h.1 c e),λc e=>l' (h.2 c e)⟩
def H6{n}{o}(h:bB n o):rK (·<n) o:=by
 cases o<;>first|exact trivial|exact λx hx=>yH (h x hx)|exact λt=>yH (h t)|exact l' h
structure Same (p:Nat->Prop) (M0 M1:Nat->Prop) (S S':Mem):Prop where
 w:S'.w=S.w
 h:∀id,p id->id<S.h.length->S'.h[id]?=S.h[id]?/\S'.m.getD id none=S.m.getD id none
 av:∀b,Avoid M1 S'.m b->Avoid M0 S.m b
def ei.same{p}{S l}(e:Same p M0 M1 S l){id i}{X}(h:ei S id i X)(j:p id):ei l id i X:=by
 obtain⟨u,q⟩:=e.h id j (wT h);grind[ei]
def dw.same{p}{S j}(e:Same p M0 M1 S j){v}{a}(h:dw M0 S v a)(l:sf p a):dw M1 j v a:=by
 cases a with
 |p q=>
  show RepP (Avoid M1 j.m) j.w v q;rw[e.w]
  exact RepP.less (show RepP (Avoid M0 S.m) S.w v q from h) e.av
 |ptr id u i o=>exact⟨h.1,h.2.same e l⟩
 |slice id u off len=>
  refine⟨h.1,?_⟩;rw[e.w]
  exact ei.same e h.2 l
 |ref k id=>
  refine⟨h.1,?_⟩;have z:id<S.h.length:=by
   rcases h.2 with y|⟨⟨_,y,_⟩,_⟩<;>exact(aC.1 y).1
  obtain⟨C,A⟩:=e.h id l z;rw[C,A]
  exact h.2
 |undef=>exact trivial
 |agg cs=>exact h.elim
 |func fn f c=>exact h.elim
 |tuple D=>exact h.elim
def cb.same{p}{S z}(e:Same p M0 M1 S z){v}{a}(h:cb M0 S v a)(l:tI p a):cb M1 z v a:=by
 cases a with
 |func fn f c=>
  obtain⟨F,C,rfl,D,A⟩:=h
  exact⟨F,C,rfl,D.imp λv c y u=>u.same e (l.1 c y),A.imp λv c y u=>u.same e (l.2 c y)⟩
 |p q=>exact dw.same (M0:=M0) (a:=.p q) e h l
 |ptr id j i o=>exact dw.same (M0:=M0) (a:=.ptr id j i o) e h l
 |slice id j off len=>exact dw.same (M0:=M0) (a:=.slice id j off len) e h l
 |ref k id=>exact dw.same (M0:=M0) (a:=.ref k id) e h l
 |undef=>exact trivial
 |agg cs=>exact h.elim
 |tuple E=>exact h.elim
def eE.same{p}{S u}(e:Same p M0 M1 S u){v}{a}(h:eE M0 S v a)(l:uY p a):eE M1 u v a:=by
 cases a with
 |agg cs=>
  obtain⟨C,rfl,D,A⟩:=h
  exact⟨C,rfl,D,A.imp λv c z y=>y.same e (l c z)⟩
 |p q=>exact cb.same (M0:=M0) (a:=.p q) e h l
 |ptr id j i o=>exact cb.same (M0:=M0) (a:=.ptr id j i o) e h l
 |slice id j off len=>exact cb.same (M0:=M0) (a:=.slice id j off len) e h l
 |ref k id=>exact cb.same (M0:=M0) (a:=.ref k id) e h l
 |func fn f c=>exact cb.same (M0:=M0) (a:=.func fn f c) e h l
 |undef=>exact trivial
 |tuple E=>exact h.elim
def Rep.same{p}{S u}(e:Same p M0 M1 S u){v}{a}(h:Rep M0 S v a)(j:ids p a):Rep M1 u v a:=by
 cases a with
 |tuple cs=>
  obtain⟨C,rfl,A⟩:=h
  exact⟨C,rfl,A.imp λv c z y=>y.same e (j c z)⟩
 |p q=>exact eE.same (M0:=M0) (a:=.p q) e h j
 |ptr id l i o=>exact eE.same (M0:=M0) (a:=.ptr id l i o) e h j
 |slice id l off len=>exact eE.same (M0:=M0) (a:=.slice id l off len) e h j
 |ref k id=>exact eE.same (M0:=M0) (a:=.ref k id) e h j
 |func fn f c=>exact eE.same (M0:=M0) (a:=.func fn f c) e h j
 |undef=>exact trivial
 |agg cs=>exact eE.same (M0:=M0) (a:=.agg cs) e h j
def yI{p}{x c}{cs}(hx:x.cells=some cs)(j:ids p x)(e:c∈cs)(i:c.isCell=true):tI p c:=by
 rcases y' hx with⟨l,rfl⟩|⟨l,rfl⟩|⟨u,rfl⟩
 .simp only[AV.cells,PV.cells,iu]at hx;subst hx;simp only[cA]at e;obtain⟨q,_,rfl⟩:=e;exact trivial
 .simp only[AV.cells,iu]at hx;subst hx;exact j c e
 .simp only[dW]at e;subst e;cases c<;>first|exact j|exact trivial|cases u
def ObjOk.same{p}{S K}(e:Same p M0 M1 S K){μ}{o}(h:ObjOk P M0 S μ o)(G:rK p o):ObjOk P M1 K μ o:=by
 cases o with
 |row sz xs=>
  rcases h with h|⟨b,T,C,u,l,y,D⟩
  .exact .inl h
  .refine .inr ⟨b,T,C,u,by rw[e.w];exact l,y,λi x hx=>?_⟩;obtain⟨cs,A,J,I⟩:=D i x hx
   exact⟨cs,A,J,λj c E=>⟨(I j c E).1,cb.same e (I j c E).2 (yI A (G x (aB hx)) (aB E) (I j c E).1)⟩⟩
 |loop n tmps ps assign body N pend=>
  obtain⟨b,r,u,l,y,D,A⟩:=h
  exact⟨b,r,u,by rw[e.w];exact l,y,λt=>Rep.same e (D t) (G t),A⟩
 |strIter s q=>obtain⟨b,u,l⟩:=h;exact⟨b,u,by rw[e.w];exact l⟩
 |mp es=>
  obtain⟨b,C,z,u,l,y⟩:=h
  exact⟨b,C,z,u,by rw[e.w];exact l,y.monoP λv q F=>cb.same e F trivial⟩
 |memo f=>
  obtain⟨L,es,M,b,C,z,u,l,y⟩:=h
  exact⟨L,es,M,b,C,z,u,by rw[e.w];exact l,y.monoP λv q F=>cb.same e F trivial⟩
 |dblock=>obtain⟨b,u,l⟩:=h;exact⟨b,u,by rw[e.w];exact l⟩
 |bld T O x=>
  obtain⟨b,q,v,u,l,y,D,A,J⟩:=h
  exact⟨b,q,v,u,by rw[e.w];exact l,y,D,dw.same e A G,by rw[e.w];exact J⟩
 |dead=>exact trivial
def ObjOk.keepF{S G}(e:Ev S.h.length S G){μ}{o}(hw:∀b,μ=some b->G.w.heap[b]?=S.w.heap[b]?)(h:ObjOk P M0 S μ o):ObjOk P M0 G μ o:=by
 cases o with
 |row sz xs=>
  rcases h with h|⟨b,T,C,l,u,y,D⟩
  .exact .inl h
  .refine .inr ⟨b,T,C,l,by grind,y,λi x hx=>?_⟩;obtain⟨cs,A,F,K⟩:=D i x hx
   exact⟨cs,A,F,λj c I=>⟨(K j c I).1,e.keepS (K j c I).2⟩⟩
 |loop n tmps ps assign body R pend=>
  obtain⟨b,r,l,u,y,D,A⟩:=h
  exact⟨b,r,l,by grind,y,λt=>e.keep (D t),A⟩
 |strIter s q=>grind[ObjOk]
 |mp es=>
  obtain⟨b,C,z,l,u,y⟩:=h
  exact⟨b,C,z,l,by grind,y.mono λv a E=>e.keepS E⟩
 |memo f=>
  obtain⟨M,es,O,b,C,z,l,u,y⟩:=h
  exact⟨M,es,O,b,C,z,l,by grind,y.mono λv a E=>e.keepS E⟩
 |dblock=>grind[ObjOk]
 |bld T U x=>
  obtain⟨b,q,v,l,u,y,D,A,F⟩:=h;refine⟨b,q,v,l,by grind,y,D,e.rep0 A (iO A),λa n c L=>?_⟩;obtain⟨N,J⟩:=F a n c L
  exact⟨N,(e.fr.shape _ (tu J)).trans J⟩
 |dead=>exact trivial
def fO{e i:List (Option Nat)}{id}(h:id<e.length):(e++i).getD id none=e.getD id none:=by
 grind
def iR{f}{args}{h}{R:AEnd->Heap->Prop}(b6:∀o,o∈h->bB h.length o)(a5:∀a,a∈args->below h.length a)
  (k:aw P f args h (λr h'=>h'.length=h.length/\R r h')) (t):aw P f args (h++t) (λr b7=>∃h',b7=h'++t/\h'.length=h.length/\R r h'):=by
 intro M0 m w a6 J ha;have X:m.length=(h++t).length:=J.len;rw[ak]at X;obtain⟨u,q,rfl,a2⟩:∃u q,m=u++q/\u.length=h.length:=⟨m.take h.length,m.drop h.length,(ja _ _).symm,by simp;omega⟩
 have b8:q.length=t.length:=by rw[ak]at X;omega
 have E:∀b,Own u b->Own (u++q) b:=λb l=>cn.2 (.inl l);have z:∀b,Own q b->Own (u++q) b:=λb l=>cn.2 (.inr l);have Z:∀b,Own u b->Own q b->False:=λb A K=>by
  obtain⟨i,hi⟩:=fN A;obtain⟨j,hj⟩:=fN K;have a3:i<u.length:=(aC.1 hi).1;have:=J.inj i (u.length+j) b (by grind) (by grind);omega
 let M1:Nat->Prop:=λb=>M0 b\/Own q b
 have Y:Same (·<h.length) M0 M1 ⟨u++q,h++t,w⟩ ⟨u,h,w⟩:=
  {w:=rfl
   h:=λid C _=>⟨(bJ C).symm,(fO (by grind)).symm⟩
   av:=λb l=>by
    grind[Avoid] }
 have b3:HOk P M1 ⟨u,h,w⟩:=
  {len:=a2
   lt:=λb l=>J.lt b (E b l)
   m0:=λb l=>by
    rcases l with l|l
    .exact⟨(J.m0 b l).1,λS=>(J.m0 b l).2 (E b S)⟩
    .exact⟨J.lt b (z b l),λS=>Z b S l⟩
   inj:=λi j b hi hj=>by
    have a3:i<u.length:=(aC.1 hi).1;have b4:j<u.length:=(aC.1 hj).1;exact J.inj i j b (by grind) (by grind)
   obj:=λid o C=>by
    have b0:id<h.length:=(aC.1 C).1;have:=J.obj id o (by grind);rw[show (Mem.m ⟨u++q,h++t,w⟩).getD id none=u.getD id none from fO (by omega)]at this;exact this.same Y (H6 (b6 o (aB C)))
   gl:=⟨J.gl.1,λb hg N=>J.gl.2 b hg (E b N)⟩ }
 have:=k M1 u w a6 b3 ⟨ha.1,λi c hi=>(ha.2 i c hi).same Y (yH (a5 c (aB hi)))⟩;refine⟨this.1,this.2.mono λe w' hh=>?_⟩;obtain⟨r,h',m',⟨T,hR⟩,D,U,I⟩:=hh;have a1:m'.length=h'.length:=U.len;have V:∀b,Own m' b->Own q b->False:=λb A K=>(U.m0 b (.inr K)).2 A
 have M:Same (λ_=>True) M1 M0 ⟨m',h',w'⟩ ⟨m'++q,h'++t,w'⟩:=
  {w:=rfl
   h:=λid _ C=>⟨bJ C,fO (by grind)⟩
   av:=λb l=>by
    rcases l with l|l
    .grind[Avoid]
    .rcases cn.1 l with l|l
     .exact .inr l
     .exact .inl (.inr l) }
 have L:∀a:AV,ids (λ_=>True) a:=by
  have h0:∀a:AV,sf (λ_=>True) a:=λa=>by cases a<;>exact trivial
  have A:∀a:AV,tI (λ_=>True) a:=λa=>by cases a<;>first|exact trivial|grind[tI]
  have K:∀a:AV,uY (λ_=>True) a:=λa=>by cases a<;>first|exact trivial|grind[uY]|grind[uY]
  exact λa=>by cases a<;>first|exact trivial|grind[ids]|grind[ids]|grind[ids]
 have a9:∀o:AObj,rK (λ_=>True) o:=λo=>by
  cases o<;>first|exact trivial|exact λx _=>L x|exact λt=>L _|skip
  rename_i x;cases x<;>exact trivial
 have a0:Ev (h++t).length ⟨u++q,h++t,w⟩ ⟨m'++q,h'++t,w'⟩:=
  {fr:=⟨D.fr.os,D.fr.tape,D.fr.output,D.fr.size,λb l S=>D.fr.block b l λN=>S (E b N),D.fr.shape⟩
   sub:=λb l=>by
    rcases cn.1 l with l|l
    .rcases D.sub b l with A|A
     .grind
     .exact .inr A
    grind[Own]
   obj:=λid o C N=>by
    rcases dO id h.length with a7|b5
    .have b1:h[id]?=some o:=by
      have:(h++t)[id]?=some o:=N;rwa [bJ a7]at this
     obtain⟨o',A,K⟩:=D.obj id o a7 b1;grind
    .refine⟨o,?_,?_⟩
     .grind
     .have e1:(u++q).getD id none=q.getD (id-h.length) none:=by
       rw[da,da,dB (by omega),a2]
      have e2:(m'++q).getD id none=q.getD (id-h.length) none:=by
       rw[da,da,dB (by omega),a1,T]
      show ObjEv ((u++q).getD id none) _ ((m'++q).getD id none) _;rw[e1,e2]
      exact ObjEv.refl _ _ }
 have a4:Ev (Mem.h ⟨u++q,h++t,w⟩).length ⟨u++q,h++t,w⟩ ⟨m'++q,h'++t,w'⟩:=a0
 have b2:HOk P M0 ⟨m'++q,h'++t,w'⟩:=
  {len:=by simp;omega
   lt:=λb l=>by
    rcases cn.1 l with l|l
    .exact U.lt b l
    .exact iy (J.lt b (z b l)) D.fr.size
   m0:=λb l=>⟨(U.m0 b (.inl l)).1,λS=>by
    rcases cn.1 S with S|S
    .exact(U.m0 b (.inl l)).2 S
    .exact(J.m0 b l).2 (z b S)⟩
   inj:=λi j b hi hj=>by
    have G:(m'++q)[i]?=some (some b):=hi;have F:(m'++q)[j]?=some (some b):=hj;rcases dO i m'.length with A|A<;>rcases dO j m'.length with K|K
    .rw[bJ A]at G;rw[bJ K]at F;exact U.inj i j b G F
    .rw[bJ A]at G;rw[dB K]at F;exact(V b (aB G) (aB F)).elim
    .rw[dB A]at G;rw[bJ K]at F;exact(V b (aB F) (aB G)).elim
    .rw[dB A]at G;rw[dB K]at F;have:=J.inj (u.length+(i-m'.length)) (u.length+(j-m'.length)) b (by grind) (by grind);omega
   obj:=λid o C=>by
    have O:(h'++t)[id]?=some o:=C;rcases dO id h'.length with A|A
    .rw[bJ A]at O;have:=U.obj id o O;show ObjOk P M0 _ ((m'++q).getD id none) o;rw[fO (by omega)];exact ObjOk.same M this (a9 o)
    .rw[dB A]at O;have e1:(u++q).getD id none=q.getD (id-h.length) none:=by
      rw[da,da,dB (by omega),a2]
     have e2:(m'++q).getD id none=q.getD (id-h.length) none:=by
      rw[da,da,dB (by omega),a1,T]
     have:=J.obj id o (by grind);rw[show (Mem.m ⟨u++q,h++t,w⟩).getD id none=(u++q).getD id none from rfl,e1]at this;show ObjOk P M0 _ ((m'++q).getD id none) o;rw[e2];refine this.keepF a4 λb l=>?_;have a8:Own q b:=by
      rw[da]at l
      cases hx:q[id-h.length]? with
      |none=>grind
      |some y=>grind[Own]
     exact D.fr.block b (J.lt b (z b a8)) λN=>Z b N a8
   gl:=⟨U.gl.1,λb hg N=>by
    rcases cn.1 N with N|N
    .exact U.gl.2 b hg N
    .exact J.gl.2 b hg (z b N)⟩ }
 refine⟨r,h'++t,m'++q,⟨h',rfl,T,hR⟩,a0,b2,?_⟩
 cases e with
 |returned v'=>
  cases r with
  |panic v=>exact I.elim
  |ret a=>exact Rep.same M (show Rep M1 ⟨m',h',w'⟩ v' a from I) (L a)
 |panicked ch=>
  cases r with
  |ret a=>exact I.elim
  |panic v=>
   obtain⟨v',A,K⟩:=I
   exact⟨v',A,RepP.less (show RepP (Avoid M1 m') w' v' v from K) M.av⟩
 |outgrown=>exact I.elim
def o6{m}{k b}(h:Own (m.set k none) b):Own m b:=by
 grind[Own]
def nH{m:List (Option Nat)}{k id}(h:id≠k):(m.set k none).getD id none=m.getD id none:=by
 grind
def vA{m:List (Option Nat)}{k}:(m.set k none).getD k none=none:=by
 grind
def tG (k:Nat) (x y:AV):Prop:=∃cs ds,x.cells=some cs/\y.cells=some ds/\ds.length=cs.length/\∀(j:Nat) (c d:AV),cs[j]?=some c->ds[j]?=some d->d=c\/(c=.p .nilslice/\d=.slice k 0 0 0)
def pK{A}{T}(k i sz s)(xs ys)(hk:A.bs<=k)(hi:A.bs<=i)(a5:k<A.h.length)(a1:i≠k)(hx:A.h[i]?=some (.row s xs))(V:ys.length=xs.length)
  (a3:∀(n:Nat) (x y),xs[n]?=some x->ys[n]?=some y->tG k x y) (ht:∀t,(T t=A.tmps t/\ids (·≠k) (A.tmps t))\/T t=.undef)
  (ho:∀(id) (o),id≠k->A.h[id]?=some o->rK (·≠k) o) (hd:A.df=[]):gU P A { A with tmps:=T,h:=(A.h.set k (.row sz [])).set i (.row s ys) }:=
 ⟨rfl,rfl,λM0 S0 b cs0 m a w D=>by
  refine⟨m.set k none,?_⟩;have b0:m.length=A.h.length:=D.hok.len
  have b5:Same (·≠k) M0 M0 ⟨m,A.h.set i (.row s ys),w⟩ ⟨m.set k none,(A.h.set k (.row sz [])).set i (.row s ys),w⟩:=
   {w:=rfl
    h:=λid I _=>⟨by
      grind,nH I⟩
    av:=λb l=>l.imp id o6 }
  have b7:Same (·≠k) M0 M0 ⟨m,A.h,w⟩ ⟨m,A.h,w⟩:=⟨rfl,λ_ _ _=>⟨rfl,rfl⟩,λ_ h=>h⟩
  have live:∀{id u:Nat} {X:Nat->Option Nat->Prop},id≠k->ei ⟨m,A.h,w⟩ id u X->ei ⟨m.set k none,(A.h.set k (.row sz [])).set i (.row s ys),w⟩ id u X:=by
   intro id u X I h;have e2:(m.set k none).getD id none=m.getD id none:=nH I;by_cases J:id=i
   .grind[ei]
   .grind[ei]
  have rep0:∀{v:Value} {a:AV},dw M0 ⟨m,A.h,w⟩ v a->sf (·≠k) a->dw M0 ⟨m.set k none,(A.h.set k (.row sz [])).set i (.row s ys),w⟩ v a:=by
   intro v a h l
   cases a with
   |p q=>exact RepP.less (show RepP (Avoid M0 m) w v q from h) λb l=>l.imp id o6
   |ptr id u i' o=>exact⟨h.1,live l h.2⟩
   |slice id u off len=>exact⟨h.1,live (X:=sliceAt w v u off len) l h.2⟩
   |ref q id=>
    refine⟨h.1,?_⟩;have J:id≠i\/A.h[id]?=some (.row s xs):=by
     by_cases e:id=i
     .grind
     .exact .inl e
    rcases J with J|J
    .have e1:((A.h.set k (.row sz [])).set i (.row s ys))[id]?=A.h[id]?:=by
      rw[eS (Ne.symm J),eS (Ne.symm l)]
     have e2:(m.set k none).getD id none=m.getD id none:=nH l;show (((A.h.set k (.row sz [])).set i (.row s ys))[id]?=some .dead\/(∃o,((A.h.set k (.row sz [])).set i (.row s ys))[id]?=some o/\o.tag=some q)/\∃b,(m.set k none).getD id none=some b/\v=yj q b);rw[e1,e2];exact h.2
    .rcases h.2 with z|⟨⟨o,z,L⟩,_⟩
     .grind
     grind[AObj.tag,yj]
   |undef=>exact trivial
   |agg cs=>exact h.elim
   |func fn f c=>exact h.elim
   |tuple vs=>exact h.elim
  have repS:∀{v:Value} {a:AV},cb M0 ⟨m,A.h,w⟩ v a->tI (·≠k) a->cb M0 ⟨m.set k none,(A.h.set k (.row sz [])).set i (.row s ys),w⟩ v a:=by
   intro v a h l
   cases a with
   |func fn f c=>
    obtain⟨F,C,rfl,G,z⟩:=h
    exact⟨F,C,rfl,G.imp λv c K D=>rep0 D (l.1 c K),z.imp λv c K D=>rep0 D (l.2 c K)⟩
   |p q=>exact rep0 (a:=.p q) h l
   |ptr id u i o=>exact rep0 (a:=.ptr id u i o) h l
   |slice id u off len=>exact rep0 (a:=.slice id u off len) h l
   |ref q id=>exact rep0 (a:=.ref q id) h l
   |undef=>exact trivial
   |agg cs=>exact h.elim
   |tuple vs=>exact h.elim
  have repA:∀{v:Value} {a:AV},eE M0 ⟨m,A.h,w⟩ v a->uY (·≠k) a->eE M0 ⟨m.set k none,(A.h.set k (.row sz [])).set i (.row s ys),w⟩ v a:=by
   intro v a h l
   cases a with
   |agg cs=>
    obtain⟨C,rfl,G,z⟩:=h
    exact⟨C,rfl,G,z.imp λv c K D=>repS D (l c K)⟩
   |p q=>exact repS (a:=.p q) h l
   |ptr id u i o=>exact repS (a:=.ptr id u i o) h l
   |slice id u off len=>exact repS (a:=.slice id u off len) h l
   |ref q id=>exact repS (a:=.ref q id) h l
   |func fn f c=>exact repS (a:=.func fn f c) h l
   |undef=>exact trivial
   |tuple vs=>exact h.elim
  have rep:∀{v:Value} {a:AV},Rep M0 ⟨m,A.h,w⟩ v a->ids (·≠k) a->Rep M0 ⟨m.set k none,(A.h.set k (.row sz [])).set i (.row s ys),w⟩ v a:=by
   intro v a h l
   cases a with
   |tuple cs=>
    obtain⟨C,rfl,z⟩:=h
    exact⟨C,rfl,z.imp λv c K D=>repA D (l c K)⟩
   |p q=>exact repA (a:=.p q) h l
   |ptr id u i o=>exact repA (a:=.ptr id u i o) h l
   |slice id u off len=>exact repA (a:=.slice id u off len) h l
   |ref q id=>exact repA (a:=.ref q id) h l
   |func fn f c=>exact repA (a:=.func fn f c) h l
   |undef=>exact trivial
   |agg cs=>exact repA (a:=.agg cs) h l
  have b6:∀{b T s':Nat} {C:Array Value} {x y:AV} {n:Nat},True:=λ{_ _ _ _ _ _ _}=>trivial;have a0:i<A.h.length:=(aC.1 hx).1;refine⟨D.size,λt=>?_,?_,?_,?_,?_,?_⟩
  .show Rep M0 _ _ (T t);rcases ht t with⟨e,l⟩|e
   .rw[e];exact rep (D.tmps t) l
   .rw[e];exact trivial
  .exact
   {len:=by simp;exact b0
    lt:=λb l=>D.hok.lt b (o6 l)
    m0:=λb l=>⟨(D.hok.m0 b l).1,λY=>(D.hok.m0 b l).2 (o6 Y)⟩
    inj:=λi' j' b U b2=>by
     have a4:∀n:Nat,(m.set k none)[n]?=some (some b)->m[n]?=some (some b):=by
      intro n Y;rw[Mq]at Y;split at Y
      .grind
      .exact Y
     exact D.hok.inj i' j' b (a4 i' U) (a4 j' b2)
    obj:=λid o I=>by
     have E:((A.h.set k (.row sz [])).set i (.row s ys))[id]?=some o:=I;show ObjOk P M0 _ ((m.set k none).getD id none) o;by_cases M:id=k
     .grind[ObjOk]
     .rw[nH M];by_cases U:id=i
      .subst U;rw[jp (by grind)]at E;cases E;have:=D.hok.obj id _ hx;rcases this with⟨G,z⟩|⟨bl,T',C,G,z,L,R⟩
       .grind[ObjOk]
       .refine .inr ⟨bl,T',C,G,z,by rw[V];exact L,λn y hy=>?_⟩;have a9:n<xs.length:=by have:=(aC.1 hy).1;omega
        obtain⟨x,Z⟩:∃x,xs[n]?=some x:=⟨_,bL a9⟩
        obtain⟨cs,ds,e1,e2,e3,e4⟩:=a3 n x y Z hy;obtain⟨b9,O,h6,h7⟩:=R n x Z;rw[e1]at O;cases O;refine⟨ds,e2,by omega,λj d a6=>?_⟩;have b1:j<cs.length:=by have:=(aC.1 a6).1;omega
        obtain⟨c,K⟩:∃c,cs[j]?=some c:=⟨_,bL b1⟩
        obtain⟨h8,h9⟩:=h7 j c K;rcases e4 j c d K a6 with rfl|⟨rfl,rfl⟩
        .exact⟨h8,repS h9 (yI e1 (ho id _ M hx x (aB Z)) (aB K) h8)⟩
        .refine⟨rfl,?_⟩;have a7:RepP (Avoid M0 m) w (C.getD (n*s+j) undef) .nilslice:=h9;generalize C.getD (n*s+j) undef=v at a7 |-;cases a7;refine⟨⟨none,0,0,rfl⟩,.inr ⟨sz,[],?_,ba _,λ_=>.inr (.inr ⟨?_,rfl,rfl⟩)⟩⟩
         .grind
         .exact vA
      .rw[eS (Ne.symm U),eS (Ne.symm M)]at E;have:=D.hok.obj id o E;have l:=ho id o M E;have this:ObjOk P M0 ⟨m,A.h,w⟩ (m.getD id none) o:=this;generalize m.getD id none=μ at this |-
       cases o with
       |row sz xs=>
        rcases this with h|⟨b,T,C,G,z,L,R⟩
        .exact .inl h
        .refine .inr ⟨b,T,C,G,z,L,λi x hx=>?_⟩;obtain⟨cs,O,h6,h7⟩:=R i x hx
         exact⟨cs,O,h6,λj c K=>⟨(h7 j c K).1,repS (h7 j c K).2 (yI O (l x (aB hx)) (aB K) (h7 j c K).1)⟩⟩
       |loop n tmps ps assign body st pend=>
        obtain⟨b,r,G,z,L,R,O⟩:=this
        exact⟨b,r,G,z,L,λt=>rep (R t) (l t),O⟩
       |strIter s p=>exact this
       |mp es=>
        obtain⟨b,C,a2,G,z,L⟩:=this
        exact⟨b,C,a2,G,z,L.monoP λv q hq=>repS hq trivial⟩
       |memo f=>
        obtain⟨hg,es,hf,b,C,a2,G,z,L⟩:=this
        exact⟨hg,es,hf,b,C,a2,G,z,L.monoP λv q hq=>repS hq trivial⟩
       |dblock=>exact this
       |bld T el x=>
        obtain⟨b,p,v,G,z,L,R,O,h6⟩:=this
        exact⟨b,p,v,G,z,L,R,rep0 O l,h6⟩
       |dead=>exact trivial
    gl:=D.hok.gl.fr (λ_ _ _=>rfl) λb l=>.inl (o6 l) }
  .exact
   {fr:=D.ev.fr
    sub:=λx hx=>D.ev.sub x (o6 hx)
    obj:=λid o I a8=>by
     obtain⟨o',G,z⟩:=D.ev.obj id o I a8;grind }
  .exact⟨by grind,D.le.2⟩
  .have:=D.df;grind[DefsRep]
  .have:=D.rc;show RcRep M0 _ b cs0 A.rc;cases K:A.rc<;>rw[K]at this<;>first|exact this|skip
   obtain⟨G,z,v',b4,L,R⟩:=this
   exact⟨G,z,v',b4,L,RepP.less R λb l=>l.imp id o6⟩⟩
variable {H:Hints} {Q:Cont}
def WZ{σ}{V:σ->Prop}{I}{μ}{s}{A B}(hw:gU P A B)(k:@WQ ⟨fh (iA P V I μ s) Q⟩ .normal B):@WQ ⟨fh (iA P V I μ s) Q⟩ .normal A:=by
 obtain⟨e,l,j,i⟩:=k;exact⟨e,l,j,hw.trans i⟩
def wk{A}(sz):gU P A { A with h:=A.h++[.row sz []] }:=Hi sz λ_=>.inl rfl
namespace Cl
set_option maxRecDepth 4000
def fc (s:ClShop) (l:List ClBatch) (c:Int) (j:Nat):Option Int:=match l[j]? with|some b=>m4 s c b|none=>none
def ij (l:List ClBatch) (j:Nat):Int:=match l[j]? with|some b=>b.colour|none=>0
def eJ (c:Int) (m:Nat):PV:=.agg [.int .i64 c,.int .i64 m]
def ju (p:Int×Int):PV:=.agg [.int .i64 p.1,.int .i64 p.2]
attribute [go_sem] eJ ju
def fH (s:ClShop) (l:List ClBatch) (c:Int) (m:Nat):Int×Int:=nu (fc s l) (ij l) c m
def iz (s:ClShop) (l:List ClBatch):PV->PV->Bool
 |.agg [.int .i64 c,.int .i64 m],.agg [.int .i64 x,.int .i64 y]=>decide (0<=m)&&(decide (x=(fH s l c m.toNat).1)&&decide (y=(fH s l c m.toNat).2))
 |_,_=>false
def Bp{s}{l}{k v}(h:iz s l k v=true):∃c m,k=eJ c m/\v=ju (fH s l c m):=by
 unfold iz at h;grind[eJ,ju,fH]
def Sq(s)(l)(c)(m):iz s l (eJ c m) (ju (fH s l c m))=true:=by
 simp[iz,eJ,ju]
def Ho(c d)(m n):lf (eJ c m) (eJ d n)=some (c==d&&(m:Int)==(n)):=by
 simp[lf,eJ,I1,fx,qu]
def Sp(s)(l):qr (iz s l):=by
 intro k q v u i e;obtain⟨c,m,rfl,_⟩:=Bp i;obtain⟨d,n,rfl,_⟩:=Bp e;refine⟨_,Ho c d m n,λh=>?_⟩;grind
def Fu{s}{l}(c)(m):∀{es},(∀p,p∈es->iz s l p.1 p.2=true)->nD (eJ c m) es=some none\/nD (eJ c m) es=some (some (ju (fH s l c m)))
 |[],_=>.inl rfl
 |(k,v)::r,h=>by
  obtain⟨d,n,j,i⟩:=Bp (h (k,v) (by simp));dsimp only at j i;subst j;subst i;rw[nD,Ho];cases e:(c==d&&(m:Int)==(n:Int))
  .exact Fu c m λp q=>h p (by simp[q])
  grind
def Gp(n)(f):bB n (.memo f)=True:=rfl
def Oe(n)(k)(id):gn n (.ref k id)=(id<n):=rfl
attribute [go_sem] Gp Oe
def Cz{s}(i:ShopOk s)(l)(c)(j)(n)(h:fc s l c j=some n):0<=n/\n<=30000:=by
 unfold fc at h
 cases e:l[j]? with
 |none=>grind
 |some b=>rw[e]at h;exact vp i h
def U'{s}(e:ShopOk s)(l)(c)(m):0<=(fH s l c m).1/\(fH s l c m).1<=nA:=by
 unfold fH nu;have:=nV (fc s l) (ij l) (λc j n h=>Cz e l c j n h) 7 c (gm m)
 cases h:gB (fc s l) (ij l) 7 c (gm m) with
 |none=>simp[jT,nA]
 |some p=>have:=this p.1 p.2 (by rw[h]);simp only[jT];grind[nA]
def ql (s:ClShop) (l:List ClBatch) (v0 v1 v2 v4:PV) (mm:AObj):Heap:=[.row 4 [.p v0],.row 1 [.p v1],.row 4 [.p v2],.row 1 [.ptr 6 1 0 0],.row 1 [.p v4],mm,oP s l 5]
def qk (s:ClShop) (l:List ClBatch) (v0 v1 v2 v4 v8 v9:PV) (mm:AObj):Heap:=
 [.row 4 [.p v0],.row 1 [.p v1],.row 4 [.p v2],.row 1 [.ptr 6 1 0 0],.row 1 [.p v4],mm,oP s l 5,.row 1 [.ptr 6 1 0 0],.row 2 [.p v8],.row 2 [.p v9],.row 1 [.func (.func 382) [] [.ptr 7 1 0 0,.ptr 10 1 0 0]]]
attribute [go_sem] ql qk
def JF{s}{l}{v0 v1 v2 v4 v8 v9}{φ}:∀o,o∈qk s l v0 v1 v2 v4 v8 v9 (.memo φ)->bB (qk s l v0 v1 v2 v4 v8 v9 (.memo φ)).length o/\o.isDead=false:=by
 intro o e;simp only[qk,br,dP,or_false]at e;rcases e with rfl|rfl|rfl|rfl|rfl|rfl|rfl|rfl|rfl|rfl|rfl<;>simp[oP,bB,below,iD,gn,fb,AObj.isDead,qk]
def BJ{s}{l}{v0 v1 v2 v4}{φ}:∀o,o∈ql s l v0 v1 v2 v4 (.memo φ)->bB (ql s l v0 v1 v2 v4 (.memo φ)).length o/\o.isDead=false:=by
 intro o e;simp only[ql,br,dP,or_false]at e;rcases e with rfl|rfl|rfl|rfl|rfl|rfl|rfl<;>simp[oP,bB,below,iD,gn,fb,AObj.isDead,ql]
def Dl(n):af TP 408 [.int .i64 n] (.bool false):=by
 refine ae (ag func408 rfl) rfl (zm ?_);simp
def Jo(a b):af TP 397 [.int .i64 a,.int .i64 b] (.int .i64 (if a<b then -1 else if b<a then 1 else 0)):=by
 refine ae (ag func397 rfl) rfl (zm ?_)
 (first|refine aa (Dl a) rfl ?_|refine aj (Dl a) rfl ?_)
 refine zm ?_
 (first|refine aa (Dl b) rfl ?_|refine aj (Dl b) rfl ?_)
 refine zm ?_;by_cases e:a<b
 .have j:decide (a<b)=true:=by simpa using e
  simp[j,if_pos e,go_sem]
 .have j:decide (a<b)=false:=by simpa using e
  by_cases i:b<a
  .have l:decide (b<a)=true:=by simpa using i
   simp[j,l,if_neg e,if_pos i,go_sem]
  .have l:decide (b<a)=false:=by simpa using i
   simp[j,l,if_neg e,if_neg i,go_sem]
def Uq(p):af TP 385 [ju p] (.int .i64 p.1):=by
 refine ae (ag func385 rfl) rfl ?_;simp[go_sem]
def Wq(p q):af TP 384 [ju p,ju q,.func (.func 385) [] []] (ju (if q.1<p.1 then q else p)):=by
 refine ae (ag func384 rfl) rfl (zm ?_);refine aj (Uq p) rfl (zm ?_);refine aj (Uq q) rfl (zm ?_)
 (first|refine aa (Jo p.1 q.1) rfl ?_|refine aj (Jo p.1 q.1) rfl ?_)
 refine zm ?_;by_cases h:q.1<p.1
 .have e:¬p.1<q.1:=by omega
  simp[if_neg e,if_pos h,go_sem]
 .by_cases e:p.1<q.1
  .simp[if_pos e,if_neg h,go_sem]
  .simp[if_neg e,if_neg h,go_sem]
set_option maxRecDepth 100000 in
def Ra:∀m:Nat,m<128->∀i,i<7->i64.wrap ((BitVec.ofInt 64 ((m:Int).fdiv (2^i))&&& BitVec.ofInt 64 1).toNat:Int)=(if m.testBit i then 1 else 0):=by decide
set_option maxRecDepth 100000 in
def QA:∀m:Nat,m<128->∀i,i<7->m.testBit i=true->i64.wrap ((BitVec.ofInt 64 (m)&&& ~~~BitVec.ofInt 64 (i64.wrap (1*2^i))).toNat:Int)=((m-2^i:Nat):Int):=by decide
def Tq{m i:Nat}(e:m<128)(hi:i<7):vt .and .i64 ((m:Int).fdiv (2^i)) 1=some (.int .i64 (if m.testBit i then 1 else 0)):=congrArg (λn=>some (PV.int .i64 n)) (Ra m e i hi)
def I0{m i:Nat}(e:m<128)(hi:i<7)(h:m.testBit i=true):vt .andNot .i64 (m) (i64.wrap (1*2^i))=some (.int .i64 ((m-2^i:Nat):Int)):=congrArg (λn=>some (PV.int .i64 n)) (QA m e i hi h)
def RT{h u}(j:∀o,o∈h->o.isDead=false)(e:dr h u):∃t,u=h++t:=by
 refine⟨u.drop h.length,pE λi=>?_⟩;rcases dO i h.length with hi|hi
 .rw[bJ hi,bL hi];exact e i _ (bL hi) (j _ (G9 hi))
 grind
def TN{P}{H}{ops}{rest}{Q}{o}{q y base}{A}{f}{args}{v}(z:aw P f args base (λr h'=>r=.ret v/\h'=base))
  (u:∀o,o∈base->bB base.length o/\o.isDead=false) (C:∀a,a∈args->below base.length a) (l:dr base y) (k:@WD ⟨P,H,ops,rest,Q⟩ q (A.put o.dst v A.h)):@JW ⟨P,H,ops,rest,Q,o⟩ q y A (.call f args):=by
 refine⟨v,λh' hh=>?_,k⟩;obtain⟨t,rfl⟩:=RT (λo j=>(u o j).2) (l.trans hh);refine(iR (λo j=>(u o j).1) C (z.mono λr h' i=>⟨by rw[i.2],i⟩) t).mono λr D i=>?_;grind
def W2{P}{H}{ops}{rest}{Q}{dst}{base}{A}{f}{args}{v}(t)(q:aw P f args base (λr h'=>r=.ret v/\h'=base))
  (u:∀o,o∈base->bB base.length o/\o.isDead=false) (y:∀a,a∈args->below base.length a) (j:A.h=base++t) (k:@WO ⟨P,H,ops,rest,Q⟩ (A.put dst v A.h)):@WF ⟨P,H,ops,rest,Q,dst⟩ A f args:=by
 refine cw (h':=A.h) ?_ k;rw[j];refine(iR (λo l=>(u o l).1) y (q.mono λr h' i=>⟨by rw[i.2],i⟩) t).mono λr z i=>?_;grind
def us (s:ClShop) (l:List ClBatch) (c:Int) (m k:Nat):Int×Int:=((List.range k).filter m.testBit).foldl (lZ (fc s l) c λj=>fH s l (ij l j) (m-2^j)) (nA,-2)
def Vb{s}{l}{c}{m k}(h:m.testBit k=false):us s l c m (k+1)=us s l c m k:=by
 simp[us,List.range_succ,Mr,h]
def XQ{s}{l}{c}{m k}(h:m.testBit k=true):us s l c m (k+1)=lZ (fc s l) c (λj=>fH s l (ij l j) (m-2^j)) (us s l c m k) k:=by
 simp[us,List.range_succ,Mr,h,vW]
def Vc{s}{l}{c}{m}(u:ShopOk s)(v:l.length<=7)(q:m<2^l.length)(A:m≠0):fH s l c m=us s l c m l.length:=by
 have i:m<128:=iy q (show 2^l.length<=2^7 from mX (by decide) v);have y:gm m=(List.range l.length).filter m.testBit:=by
  unfold gm;have e:(7:Nat)=l.length+(7-l.length):=by omega
  rw[e,List.range_add,Mr];have:((List.range (7-l.length)).map (l.length+·)).filter m.testBit=[]:=by
   rw[List.filter_eq_nil_iff];intro a z;obtain⟨j,_,rfl⟩:=cA.1 z;have:m.testBit (l.length+j)=false:=Nat.testBit_lt_two_pow (iy q (mX (by decide) (by omega)));rw[this];decide
  rw[this,bI]
 rw[fH,Km (fc s l) (ij l) (λc j n h=>Cz u l c j n h) c i A,y];rfl
def Uu (s:ClShop) (l:List ClBatch) (v0 v1 v2 v4 v8 v9:PV) (mm:AObj) (c:Int) (m:Nat) (p:Int×Int):Heap:=
 [.row 4 [.p v0],.row 1 [.p v1],.row 4 [.p v2],.row 1 [.ptr 6 1 0 0],.row 1 [.p v4],mm,oP s l 5,.row 1 [.ptr 6 1 0 0],.row 2 [.p v8],.row 2 [.p v9],.row 1 [.func (.func 382) [] [.ptr 7 1 0 0,.ptr 10 1 0 0]],
  .row 2 [.p (eJ c m)],.row 2 [.p (.agg [.int .i64 0,.int .i64 0])],.row 2 [.p (ju p)]]
attribute [go_sem] Uu
def R1(a)(k:Nat)(e:k<=64):gG .shr .i64 a (k)=some (.int .i64 (a.fdiv (2^k))):=by
 have j:¬(k:Int)<0:=by omega
 have i:min ((k:Int).toNat) (IntKind.bits .i64)=k:=by rw[gX];exact GN e
 grind[gG]
def A9(a)(k:Nat)(e:k<=64):gG .shl .i64 a (k)=some (.int .i64 (i64.wrap (a*2^k))):=by
 have j:¬(k:Int)<0:=by omega
 have i:min ((k:Int).toNat) (IntKind.bits .i64)=k:=by rw[gX];exact GN e
 grind[gG]
def JE{s}{l}{v0 v1 v2 v4 v8 v9}{es}:∀o,o∈qk s l v0 v1 v2 v4 v8 v9 (.mp es)->bB 11 o:=by
 intro o e;simp only[qk,br,dP,or_false]at e;rcases e with rfl|rfl|rfl|rfl|rfl|rfl|rfl|rfl|rfl|rfl|rfl<;>simp[oP,bB,below,iD,gn,fb]
def X5(s)(l)(v0 v1 v2 v4 v8 v9)(M:ShopOk s)(hb:∀b,b∈l->BatchOk s b)(V:l.length<=7):∀(m),m<2^l.length->∀(c:Int),0<=c/\c<s.colours.length ->
  aw TP 382 [.p (eJ c m),.ptr 7 1 0 0,.ptr 10 1 0 0] (qk s l v0 v1 v2 v4 v8 v9 (.memo (iz s l)))
   (λr h'=>r=.ret (.p (ju (fH s l c m)))/\h'=qk s l v0 v1 v2 v4 v8 v9 (.memo (iz s l))):=by
 intro m
 induction m using Nat.strongRecOn with
 |ind m ih=>
 intro U c hc;have u:m<128:=iy U (show 2^l.length<=2^7 from mX (by decide) V);refine Ns (id:=5) (φ:=iz s l) rfl λhg es X=>?_;show aw _ _ _ (qk s l v0 v1 v2 v4 v8 v9 (.mp es)) _;refine ci (dv (by kernel_rfl) rfl ZK) rfl (zm ?_);cases Y:((m:Int)==0)
 rotate_left
 .have v:m=0:=by simpa using Y
  subst v;refine zm ?_;refine⟨_,_,rfl,rfl,?_,trivial,.inr rfl,?_,?_⟩
  .exact λo z=>JE (es:=es) (s:=s) (l:=l) (v0:=v0) (v1:=v1) (v2:=v2) (v4:=v4) (v8:=v8) (v9:=v9) o z
  .rw[fH,Aq]
  .rw[fH,Aq]
 have v:m≠0:=by intro h;subst h;simp at Y
 refine zm ?_;rcases Fu (s:=s) (l:=l) c m X with A|A
 rotate_left
 .simp only[eJ,ju]at A;simp only[BR,aD,A,go_sem,simprocAttr];refine⟨_,_,rfl,rfl,?_,trivial,.inr rfl⟩;exact λo z=>JE (es:=es) (s:=s) (l:=l) (v0:=v0) (v1:=v1) (v2:=v2) (v4:=v4) (v8:=v8) (v9:=v9) o z
 simp only[eJ]at A;simp only[BR,aD,A,go_sem,simprocAttr];refine eR (OP (id:=5) hg X rfl) (zm ?_);refine aG [1,2,3,4,5,30,31] l (by omega) (τ:=Unit) (λd_ rest _=>True) (λd_ _=>[(32,.p (.int .i64 d_.length))]) (λd_ _=>Uu s l v0 v1 v2 v4 v8 v9 (.memo (iz s l)) c m (us s l c m d_.length)) () trivial ?_ ?_ ?_
 .refine zm ?_;rfl
 .intro _ _;have hp:=Vc (c:=c) M V U v;rw[<-hp];have F:=Sq s l c m;simp only[eJ,ju]at F;simp only[BR,aD,F,go_sem,simprocAttr];refine⟨_,_,rfl,rfl,?_,trivial,.inl rfl⟩;exact λo z=>(JF (φ:=iz s l) (s:=s) (l:=l) (v0:=v0) (v1:=v1) (v2:=v2) (v4:=v4) (v8:=v8) (v9:=v9) o z).1
 .intro d_ b r _ y _ hx T q;have G:=hb b (by rw[y];simp);have a2:d_.length<l.length:=by rw[y];simp
  have L:=Tq u (show d_.length<7 by omega);have E:l[d_.length]?=some b:=by rw[y];simp
  have R:=R1 (m:Int) d_.length (by omega);simp only[T,hx,R,↓L,go_sem,simprocAttr];cases i:m.testBit d_.length
  .have e:=Vb (s:=s) (l:=l) (c:=c) i;refine zm ?_;refine am y () trivial ?_;simp[q,ak,aK,e,go_sem]
  have e:=XQ (s:=s) (l:=l) (c:=c) i;have K:=I0 u (show d_.length<7 by omega) i;have I:=A9 1 d_.length (by omega);refine zm ?_;refine bq (Wa s l c b M G hc) ?_ (.int _ _) ?_
  .simp[go_sem]
  refine zm ?_;have D:fc s l c d_.length=m4 s c b:=by rw[fc,E]
  by_cases N:fm s c b<0
  .have O:decide (fm s c b<0)=true:=by simpa using N
   have j:us s l c m (d_.length+1)=us s l c m d_.length:=by
    rw[e,lZ,D,m4,if_pos N]
   refine zn O ?_;refine am y () trivial ?_;simp only[q,ak,aK,j,go_sem,simprocAttr]
   trace_state
  have O:decide (fm s c b<0)=false:=by simpa using N
  have J:ij l d_.length=b.colour:=by rw[ij,E]
  have C:m4 s c b=some (fm s c b*s.rinse):=by rw[m4,if_neg N]
  have a0:=vp M C;have S:=U' M l b.colour (m-2^d_.length);have a1:=(sR m u d_.length (by omega) i).2;have Z:0<2^d_.length:=Nat.pow_pos (by decide);have w1:i64.wrap (fm s c b*s.rinse)=fm s c b*s.rinse:=ah;have w2:i64.wrap (fm s c b*s.rinse+(fH s l b.colour (m-2^d_.length)).1)=fm s c b*s.rinse+(fH s l b.colour (m-2^d_.length)).1:=by
   unfold nA at S;exact ah
  have j:us s l c m (d_.length+1)=if fm s c b*s.rinse+(fH s l b.colour (m-2^d_.length)).1<(us s l c m d_.length).1 then(fm s c b*s.rinse+(fH s l b.colour (m-2^d_.length)).1,(d_.length:Int)) else us s l c m d_.length:=by
   rw[e,lZ,D,C];simp only[J]
  simp only[BR,aD,O,↓K,I,go_sem,simprocAttr];refine TN (base:=qk s l v0 v1 v2 v4 v8 v9 (.memo (iz s l))) (ih (m-2^d_.length) (by omega) (by omega) b.colour G.colour) JF ?_ (dr.app _ [_,_,_,_]) ?_
  .simp[go_sem]
  simp only[BR,aD,w1,w2,go_sem,simprocAttr];refine aj (Wq (us s l c m d_.length) (fm s c b*s.rinse+(fH s l b.colour (m-2^d_.length)).1,(d_.length:Int))) rfl ?_;simp only[BR,go_sem,simprocAttr];refine am y () trivial ?_;simp[q,ak,aK,j,go_sem]
def FY(s)(b)(j:s.colours.length<=1000000):af TP 325 [s.pv,b.pv] (.int .i64 (ep s b)):=by
 refine ae (ag func325 rfl) rfl ?_;have hw:i64.wrap ((s.colours.length:Int)-1)=(s.colours.length:Int)-1:=ah;refine zn hw ?_;refine aa (Jj _ _ _) rfl (zm ?_);cases e:aq b.colour 0 ((s.colours.length:Int)-1)
 .simp[ep,e,go_sem]
 refine zm ?_;refine aa (Jj _ _ _) rfl (zm ?_);cases i:aq b.grams 1 100000
 .simp[ep,e,i,go_sem]
 .simp[ep,e,i,go_sem]
def KR(s)(l)(u:s.colours.length<=1000000)(z:l.length<1000000000):af TP 258 [s.pv,.slice 2 (l.map ClBatch.pv) false] (.int .i64 (iH s l)):=by
 refine ae (ag func258 rfl) rfl (zm ?_);cases y:decide (7<(l.length:Int));rotate_left
 .have i:¬l.length<=7:=by simp at y;omega
  simp[iH,if_neg i,go_sem]
 have i:l.length<=7:=by simp at y;omega
 have A:iH s l=eh s l:=by rw[iH,if_pos i]
 rw[A];refine zm ?_;refine aG [1,2] l z (τ:=Unit) (λd_ rest _=>eh s l=eh s rest) (λd_ _=>[(5,.p (.int .i64 d_.length))]) (λ_ _=>[.row 4 [.p s.pv]]) () rfl ?_ ?_ ?_
 .simp only[go_sem,simprocAttr]<;>simp
 .intro _ e;rw[eh]at e;simp[e,go_sem]
 .intro d_ b r _ C e hx q j;rw[eh]at e;refine zo q hx ?_
  (first|refine aa (FY s b u) rfl ?_|refine aj (FY s b u) rfl ?_)
  refine zm ?_;cases v:(ep s b != 0)
  .rw[if_pos (by simpa using v)]at e;refine zm ?_;refine am C () e ?_;simp[j,go_sem]
  .rw[if_neg (by simpa using v)]at e;simp[e,go_sem]
def gN (s:ClShop) (start:Int):Int:=if(clCheck s).2.2=0 then(if aq start 0 ((s.colours.length:Int)-1)=true then 0 else 4) else(clCheck s).2.2
def Wu(s:ClShop)(start:Int)(b:Bool):af TP 257 [s.pv,.slice 1 [.int .i64 start] b] (.int .i64 (gN s start)):=by
 refine ae (ag func257 rfl) rfl (zm ?_);refine aa (lN s) rfl ?_;simp only[ao,go_sem,simprocAttr];refine aG [1,2] [start] (by simp) (τ:=Unit) (λd_ rest _=>True) (λd_ _=>[(7,.p (.int .i64 (if d_=[] then(clCheck s).2.2 else gN s start))),(8,.p (.int .i64 d_.length))]) (λ_ _=>[.row 4 [.p s.pv]]) () trivial ?_ ?_ ?_
 .simp only[go_sem,simprocAttr]<;>simp
 .intro _ _;simp[go_sem]
 .intro d_ y r _ i _ hx v u;have q:d_=[]/\y=start/\r=[]:=by
   cases d_ with
   |nil=>grind
   |cons a d=>simp at i
  obtain⟨rfl,rfl,rfl⟩:=q;refine zm ?_;cases l:((clCheck s).2.2==0)
  .have e:¬(clCheck s).2.2=0:=by simpa using l
   refine zm ?_;refine am i () trivial ?_;simp[gN,if_neg e,go_sem]
  have e:(clCheck s).2.2=0:=by simpa using l
  have z:=(sZ e).len;have hw:i64.wrap ((s.colours.length:Int)-1)=(s.colours.length:Int)-1:=ah;refine zn hw ?_
  (first|refine aa (Jj y 0 ((s.colours.length:Int)-1)) rfl ?_|refine aj (Jj y 0 ((s.colours.length:Int)-1)) rfl ?_)
  refine zm ?_;cases j:aq y 0 ((s.colours.length:Int)-1)
  .refine zm ?_;refine am i () trivial ?_;simp[gN,e,j,go_sem]
  .refine zm ?_;refine am i () trivial ?_;simp[gN,e,j,go_sem]
def zbk(k:Nat)(z:k<=20):af TP 365 [.int .i64 k] (.int .i64 ((2:Int)^k)):=by
 refine ae (ag func365 rfl) rfl (zm ?_);have v:∀j:Nat,j<=20->0<(2:Int)^j/\(2:Int)^j<=1048576:=λj i=>by
  have C:(2:Nat)^j<=2^20:=mX (by decide) i;grind
 refine dY [0] (σ:=Nat) (λj=>j<=k) (λj=>k-j) (λj=>[(3,.p (.int .i64 ((2:Int)^j))),(4,.p (.int .i64 j))]) (λk=>[]) 0 (cG _) rfl ?_ ?_
 .simp[go_sem]
 intro j i;rcases pI i with rfl|y
 .have l:decide ((j:Int)<(j:Int))=false:=by simp
  simp[l,go_sem]
 have l:decide ((j:Int)<(k:Int))=true:=by simp;omega
 have hw:i64.wrap ((j:Int)+1)=((j+1:Nat):Int):=aO (by omega) (by simp[ai];omega) (by omega);have q:=v (j+1) (by omega);have u:i64.wrap (2*(2:Int)^j)=(2:Int)^(j+1):=by
  rw[Int.pow_succ,xR]at q |-;exact ah
 refine zn l ?_;refine aZ (j+1) (by omega) (by omega) rfl ?_;simp[hw,u,go_sem]
def zaE(k:Nat)(i:k<=20):af TP 329 [.int .i64 0,.int .i64 k] (.bool false):=by
 refine ae (ag func329 rfl) rfl (zm ?_);refine aa (zbk k i) rfl ?_;have j:¬(2:Int)^k=0:=by
  have l:0<(2:Nat)^k:=Nat.pow_pos (by decide);have e:((2:Nat)^k:Nat)=((2:Int)^k):=by push_cast;rfl
  rw[<-e];omega
 simp[j,Int.zero_tdiv,go_sem]
def cL (i:Nat):PV:=.int .i64 i
def Z5(e:Nat)(v:e<=7):il TP 260 [.int .i64 0,.int .i64 e,.bool false] (.slice 1 ((List.range e).map cL) false):=by
 refine e9 (ag func260 rfl) rfl (zm ?_);refine bt 7 1 (by simp only[go_sem,simprocAttr]) (zm ?_);refine dl [0,1,2] (σ:=Nat) (λk=>k<=e) (λk=>e-k) (λk=>[(7,.slice 0 k 0 k),(8,.p (.int .i64 k))]) (λk=>[.row 1 ((List.range k).map λi=>.p (cL i))]) 0 (cG _) ?_ ?_
 .refine zm ?_<;>simp
 intro k q;rcases pI q with rfl|u
 .have j:decide ((k:Int)<(k:Int))=false:=by simp
  refine zn j ?_;rw[if_pos (by simp),j6 7 _ cL (λ_=>rfl)];simp;exact dt (by simp)
 have j:decide ((k:Int)<(e:Int))=true:=by simp;omega
 have hw:i64.wrap ((k:Int)+1)=((k+1:Nat):Int):=aO (by omega) (by simp[ai];omega) (by omega);have l:k+1<=ai:=by simp[ai];omega
 refine zn j ?_;refine aa (zaE k (by omega)) rfl (zo l @List.length_range ?_);refine aF (k+1) (by omega) (by omega) ?_;simp only[hw,List.range_succ,cL,go_sem,simprocAttr];rw[aS];rfl
def m8 (l:List ClBatch) (o:List Nat):List ClBatch:=o.filterMap λi=>l[i]?
def zbb(l:List ClBatch)(o:List Nat)(b:Bool)(z:∀i,i∈o->i<l.length)(D:o.length<=7):il TP 328 [.slice 2 (l.map ClBatch.pv) false,.slice 1 (o.map cL) b] (.slice 2 ((m8 l o).map ClBatch.pv) false):=by
 refine e9 (ag func328 rfl) rfl (zm ?_);refine bt 5 2 (by simp only[go_sem,simprocAttr]) (zm ?_);refine aG [0,1] o (by omega) (τ:=Unit) (λd_ rest _=>True) (λd_ _=>[(5,.slice 0 (m8 l d_).length 0 (m8 l d_).length),(6,.p (.int .i64 d_.length))]) (λd_ _=>[.row 2 ((m8 l d_).map λx=>.p x.pv)]) () trivial ?_ ?_ ?_
 .refine zm ?_<;>simp_all [m8]
 .intro _ _;refine zm ?_;rfl
 .intro d_ i r _ j _ hx v u;obtain⟨x,e⟩:∃x,l[i]?=some x:=⟨_,bL (z i (by rw[j];simp))⟩
  have A:(i:Int)<(l.length:Int):=by have:=z i (by rw[j];simp);omega
  have y:m8 l (d_++[i])=m8 l d_++[x]:=by simp[m8,List.filterMap_append,e]
  have C:(m8 l d_).length<=d_.length:=List.length_filterMap_le _ _;have q:(m8 l d_).length+1<=ai:=by simp[ai];have:=congrArg List.length j;simp at this;omega
  simp only[v,hx,e,A,q,cL,go_sem,simprocAttr];refine am j () trivial ?_;simp only[u,y,ak,aK,go_sem,simprocAttr];simp
def F8{need}{col}{k}{c}{l o}{n}(h:l.length<=k)(e:gB need col k c l=some (o,n)):o.Perm l:=by
 rw[<-zj need col k c l h]at e;exact uP k l o (wH need col c _ o n e).1
def G0(s)(l)(v0 v1 v2 v4)(e:ShopOk s)(v:∀b,b∈l->BatchOk s b)(q:l.length<=7)(m)(j:m<2^l.length)(c:Int)(u:0<=c/\c<s.colours.length) :
  aw TP 351 [.ptr 6 1 0 0,.p (eJ c m)] (ql s l v0 v1 v2 v4 (.memo (iz s l))) (λr h'=>r=.ret (.p (ju (fH s l c m)))/\h'=ql s l v0 v1 v2 v4 (.memo (iz s l))):=by
 refine ci (ag func351 rfl) rfl (zm ?_);refine cw (X5 s l v0 v1 v2 v4 (eJ c m) (.agg [.int .i64 0,.int .i64 0]) e v q m j c u) (zm ?_);refine⟨_,_,rfl,rfl,?_,trivial,rfl⟩;exact λo i=>(BJ (φ:=iz s l) (s:=s) (l:=l) (v0:=v0) (v1:=v1) (v2:=v2) (v4:=v4) o i).1
def X6(s)(l)(v0 v1 v2 v4 I)(hs:ShopOk s)(V:∀b,b∈l->BatchOk s b)(T:l.length<=7)(m)(hm:m<2^l.length)(c:Int)(hc:0<=c/\c<s.colours.length)(o)(n)
  (S:gB (fc s l) (ij l) 7 c (gm m)=some (o,n)) :
  aw TP 352 [.ptr 6 1 0 0,.p (eJ c m)] (ql s l v0 v1 v2 v4 (.memo (iz s l))++[.row 2 [.p I]])
   (λr h'=>r=.ret (.slice 9 o.length 0 o.length)/\∃x,h'=ql s l v0 v1 v2 v4 (.memo (iz s l))++[.row 2 [.p I],x,.row 1 (o.map λi=>.p (cL i))]):=by
 refine au (ag func352 rfl) rfl ?_;simp only[go_sem,simprocAttr];refine bt 4 1 (by simp only[go_sem,simprocAttr]) ?_;simp only[go_sem,simprocAttr]
 refine dl [0,3] (σ:=(Int×Nat)×(List Nat×List Nat)) (λq=>q.1.2<2^l.length/\(0<=q.1.1/\q.1.1<s.colours.length)/\o=q.2.1++q.2.2/\∃n,gB (fc s l) (ij l) 7 q.1.1 (gm q.1.2)=some (q.2.2,n)) (λq=>q.1.2)
  (λq=>[(4,.slice 9 q.2.1.length 0 q.2.1.length)]) (λq=>[.row 4 [.p v0],.row 1 [.p v1],.row 4 [.p v2],.row 1 [.ptr 6 1 0 0],.row 1 [.p v4],.memo (iz s l),oP s l 5,.row 2 [.p I],.row 2 [.p (eJ q.1.1 q.1.2)],.row 1 (q.2.1.map λi=>.p (cL i))]) ((c,m),([],o)) ⟨hm,hc,rfl,n,S⟩ ?_ ?_
 .simp only[go_sem,simprocAttr]
 rintro⟨⟨d,k⟩,R,Z⟩ ⟨G,U,u,n',v⟩
 dsimp only at G U u v;have z:k<128:=iy G (show 2^l.length<=2^7 from mX (by decide) T);dsimp only;by_cases X:k=0
 .subst X;rw[F7]at v;have:Z=[]:=by simp only[gB,iu,zD]at v;exact v.1.symm
  subst this;rw[bI]at u;subst u;simp only[go_sem,simprocAttr]
 have L:((k:Int) != 0)=true:=by simp;omega
 obtain⟨j,o',n2,A,e,rfl,J,O⟩:=M3 (fc s l) (ij l) z X v;have M:j<l.length:=by
  rcases dO j l.length with h|h
  .exact h
  .have:=Nat.testBit_lt_two_pow (iy G (mX (by decide) h));grind
 obtain⟨b,y⟩:∃b,l[j]?=some b:=⟨_,bL M⟩
 have N:=V b (aB y);have E:ij l j=b.colour:=by rw[ij,y]
 have F:=I0 z A e;have C:=A9 1 j (by omega);have a0:=(sR k z j A e).2;have Y:0<2^j:=Nat.pow_pos (by decide);have jl:(j:Int)<(l.length:Int):=by omega
 have K:R.length+1<=ai:=by
  have h1:o.length<=7:=by rw[(F8 (xr m) S).length_eq];exact xr m
  have h2:=congrArg List.length u;simp at h2;simp[ai];omega
 simp only[L,go_sem,simprocAttr];refine W2 (base:=ql s l v0 v1 v2 v4 (.memo (iz s l))) [_,_,_] (G0 s l v0 v1 v2 v4 hs V T k G d U) BJ ?_ rfl ?_
 .simp only[go_sem,simprocAttr]
 have D:(fH s l d k).2=(j:Int):=J;simp only[D,K,jl,y,C,↓F,go_sem,simprocAttr];refine aF ((b.colour,k-2^j),(R++[j],o')) ⟨by grind,N.colour,by rw[u];simp,n2,by grind⟩ (by grind) ?_;simp only[ak,aK,aS,cL,go_sem,simprocAttr]
def KE{P}{f}{args}{h}{R}{id}{es}{φ}(E:qr φ)(F:∀p,p∈es->φ p.1 p.2=true)(z:h[id]?=some (.mp es))
  (k:aw P f args (h.set id (.memo φ)) R):aw P f args h R:=by
 intro M0 m w j G i;obtain⟨D,l⟩:=wN (S:=⟨m,h,w⟩) G E F z;have:=k M0 m w j D (i.imp λv a _ C=>l.keep C);refine⟨this.1,this.2.mono λe w' hh=>?_⟩;obtain⟨r,A,m',I,q,y,u⟩:=hh;exact⟨r,A,m',I,l.trans (by simpa using q),y,u⟩
def qj (s:ClShop) (start:Int) (l:List ClBatch):Option (List Nat×Int):=gB (fc s l) (ij l) 7 start (List.range l.length)
def ml (s:ClShop) (start:Int) (l:List ClBatch):PV:=
 if dj s start l=0 then(match qj s start l with|some (o,n)=>.tuple [.slice 1 (o.map cL) false,.int .i64 n,.int .i64 0]|none=>.tuple [.nilslice,.int .i64 0,.int .i64 9])
 else .tuple [.nilslice,.int .i64 0,.int .i64 (dj s start l)]
def Jw:∀n,n<=7->gm (2^n-1)=List.range n:=by
 intro n e
 match n,e with
 |0,_=>decide
 |1,_=>decide
 |2,_=>decide
 |3,_=>decide
 |4,_=>decide
 |5,_=>decide
 |6,_=>decide
 |7,_=>decide
def RS:∀n,n<=7->i64.wrap (i64.wrap (1*2^n)-1)=((2^n-1:Nat):Int):=by
 intro n e
 match n,e with
 |0,_=>decide
 |1,_=>decide
 |2,_=>decide
 |3,_=>decide
 |4,_=>decide
 |5,_=>decide
 |6,_=>decide
 |7,_=>decide
def UA:Hints:=dx [(15,.mut)]
def XV:cu UA f310=true:=by kernel_rfl
def Ue(s)(start)(l)(N:l.length<1000000000):il TP 310 [s.pv,.int .i64 start,.slice 2 (l.map ClBatch.pv) false] (ml s start l):=by
 refine e9 (dv (by kernel_rfl) rfl XV) rfl ?_;simp only[UA,go_sem,simprocAttr];refine cZ (Nx s start l _ N) (λv h i=>?_) (λv h i=>?_);rotate_left
 .grind
 rcases i with⟨z,I,L,y,i,rfl⟩|⟨z,i,t,rfl⟩
 rotate_left
 .cases i;have J:(dj s start l != 0)=true:=by simpa using z
  simp[J,ml,if_neg z,go_sem]
 cases i;have C:0<=start/\start<s.colours.length:=by
  unfold dj at z;split at z
  .split at z
   .rename_i U T;simp[aq]at T;omega
   .cases z
  .contradiction
 have G:=A9 1 l.length (by omega);have F:=RS l.length y;have E:2^l.length-1<2^l.length:=by have:0<2^l.length:=Nat.pow_pos (by decide);omega
 have D:fH s l start (2^l.length-1)=jT (qj s start l):=by rw[fH,nu,Jw _ y];rfl
 have R:=G0 s l s.pv (.int .i64 start) s.pv (.int .i64 0) I L y (2^l.length-1) E start C;have K:=iR (λo M=>(BJ (φ:=iz s l) o M).1) (args:=[.ptr 6 1 0 0,.p (eJ start (2^l.length-1))]) (by simp[go_sem]) (R.mono λr h' i=>⟨by rw[i.2],i⟩) [.row 2 [.p (eJ start (2^l.length-1))]];refine zo G F ?_;refine cw (v:=.p (ju (fH s l start (2^l.length-1)))) (h':=ql s l s.pv (.int .i64 start) s.pv (.int .i64 0) (.memo (iz s l))++[.row 2 [.p (eJ start (2^l.length-1))]]) (KE (id:=5) (φ:=iz s l) (es:=[]) (Sp s l) (by simp) rfl (K.mono λr h' i=>?_)) ?_
 .grind
 cases u:qj s start l with
 |none=>
  have A:(fH s l start (2^l.length-1)).1=1099511627776:=by rw[D,u];rfl
  simp[A,ml,if_pos z,u,go_sem]
 |some q=>
  obtain⟨o,n⟩:=q;have V:=nV (fc s l) (ij l) (λc j n h=>Cz I l c j n h) 7 start (List.range l.length) o n u;have A:(fH s l start (2^l.length-1)).1=n:=by rw[D,u];rfl
  have O:decide (1099511627776<=n)=false:=by simp;omega
  have S:=X6 s l s.pv (.int .i64 start) s.pv (.int .i64 0) (eJ start (2^l.length-1)) I L y (2^l.length-1) E start C o n (by rw[Jw _ y];exact u);refine zo A O ?_;refine cZ S (λv h i=>?_) (λv h i=>?_);rotate_left
  .cases i.1
  obtain⟨i,x,rfl⟩:=i;cases i;simp only[ml,if_pos z,u,go_sem,simprocAttr];rw[j6 6 _ cL (λ_=>rfl)];simp;exact dt (by simp)
end Cl
end Abs
end Go.Proofs.YtgafommgcfhkkaaGreatDoor
