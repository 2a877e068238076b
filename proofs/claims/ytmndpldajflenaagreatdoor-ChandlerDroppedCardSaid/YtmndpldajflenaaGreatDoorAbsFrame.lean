/- LAWS: a call that is known from a part of the caller's memory is known from all of it; a r -/
import Derived.Test.YtmndpldajflenaaGreatDoorClOpen2X
set_option linter.all false
namespace Go.Proofs.YtmndpldajflenaaGreatDoor
namespace Abs
variable {P:Program} {M0 M1:Nat->Prop}
def pf (p:Nat->Prop):AV->Prop
 |.ptr id _ _ _=>p id
 |.slice id _ _ _=>p id
 |.ref _ id=>p id
 |.iptr _ id=>p id
 |.arr id _ _ _ _=>p id
 |_=>True
def qy (p:Nat->Prop):AV->Prop
 |.func _ first cap=>(∀c,c∈first->pf p c)/\∀c,c∈cap->pf p c
 |a=>pf p a
def rL (p:Nat->Prop):AV->Prop
 |.agg cs=>∀c,c∈cs->qy p c
 |a=>qy p a
def qz (p:Nat->Prop):AV->Prop
 |.tuple cs=>∀c,c∈cs->rL p c
 |a=>rL p a
def oP (p:Nat->Prop):AObj->Prop
 |.row _ xs=>∀x,x∈xs->qz p x
 |.loop _ tmps _ _ _ _ _=>∀t,qz p (tmps t)
 |.bld _ _ x=>pf p x
 |_=>True
theorem jX{n}{a}(h:dO n a):pf (·<n) a:=by
 cases a<;>first|exact h|exact trivial
theorem yR{n}{a}(h:e8 n a):qy (·<n) a:=by
 cases a<;>first|exact h|exact trivial|exact⟨λc e=>jX (h.1 c e),λc e=>jX (h.2 c e)⟩
theorem IT{n}{a}(h:fX n a):rL (·<n) a:=by
 cases a<;>first|exact h|exact trivial|exact λc e=>yR (h c e)|exact⟨λc e=>jX (h.1 c e),λc e=>jX (h.2 c e)⟩
theorem uN{n}{a}(h:below n a):qz (·<n) a:=by
 cases a<;>first|exact h|exact trivial|exact λc e=>IT (h c e)|exact λc e=>yR (h c e)|exact⟨λc e=>jX (h.1 c e),λc e=>jX (h.2 c e)⟩
theorem DN{n}{o}(h:aX n o):oP (·<n) o:=by
 cases o<;>first|exact trivial|exact λx hx=>uN (h x hx)|exact λt=>uN (h t)|exact jX h
structure Same (p:Nat->Prop) (M0 M1:Nat->Prop) (S S':Mem):Prop where
 w:S'.w=S.w
 h:∀id,p id->id<S.h.length->S'.h[id]?=S.h[id]?/\S'.m.getD id none=S.m.getD id none
 av:∀b,Avoid M1 S'.m b->Avoid M0 S.m b
theorem cC.same{p}{S j}(e:Same p M0 M1 S j){id a}{X}(h:cC S id a X)(i:p id):cC j id a X:=by
 obtain⟨o,l⟩:=e.h id i (mV h);unfold cC at *
 rw[o,l];exact h
theorem bB.same{p}{S u}(e:Same p M0 M1 S u){v}{a}(h:bB M0 S v a)(j:pf p a):bB M1 u v a:=by
 cases a with
 |p q=>
  show RepP (Avoid M1 u.m) u.w v q;rw[e.w]
  exact RepP.less (show RepP (Avoid M0 S.m) S.w v q from h) e.av
 |ptr id l i o=>exact⟨h.1,h.2.same e j⟩
 |iptr it id=>exact⟨h.1,h.2.same e j⟩
 |arr id l i o n=>exact⟨h.1,h.2.same e j⟩
 |slice id l off len=>
  refine⟨h.1,?_⟩;rw[e.w]
  exact cC.same e h.2 j
 |ref k id=>
  refine⟨h.1,?_⟩;have z:id<S.h.length:=by
   rcases h.2 with y|⟨⟨_,y,_⟩,_⟩<;>exact(aB.1 y).1
  obtain⟨C,A⟩:=e.h id j z;rw[C,A]
  exact h.2
 |undef=>exact trivial
 |agg cs=>exact h.elim
 |func fn f c=>exact h.elim
 |tuple D=>exact h.elim
theorem bm.same{p}{S z}(e:Same p M0 M1 S z){v}{a}(h:bm M0 S v a)(l:qy p a):bm M1 z v a:=by
 cases a with
 |func fn f c=>
  obtain⟨F,C,rfl,D,A⟩:=h
  exact⟨F,C,rfl,D.imp λv c y u=>u.same e (l.1 c y),A.imp λv c y u=>u.same e (l.2 c y)⟩
 |p q=>exact bB.same (M0:=M0) (a:=.p q) e h l
 |ptr id j i o=>exact bB.same (M0:=M0) (a:=.ptr id j i o) e h l
 |iptr it id=>exact bB.same (M0:=M0) (a:=.iptr it id) e h l
 |arr id j i o n=>exact bB.same (M0:=M0) (a:=.arr id j i o n) e h l
 |slice id j off len=>exact bB.same (M0:=M0) (a:=.slice id j off len) e h l
 |ref k id=>exact bB.same (M0:=M0) (a:=.ref k id) e h l
 |undef=>exact trivial
 |agg cs=>exact h.elim
 |tuple E=>exact h.elim
theorem cO.same{p}{S u}(e:Same p M0 M1 S u){v}{a}(h:cO M0 S v a)(l:rL p a):cO M1 u v a:=by
 cases a with
 |agg cs=>
  obtain⟨C,rfl,D,A⟩:=h
  exact⟨C,rfl,D,A.imp λv c z y=>y.same e (l c z)⟩
 |p q=>exact bm.same (M0:=M0) (a:=.p q) e h l
 |ptr id j i o=>exact bm.same (M0:=M0) (a:=.ptr id j i o) e h l
 |iptr it id=>exact bm.same (M0:=M0) (a:=.iptr it id) e h l
 |arr id j i o n=>exact bm.same (M0:=M0) (a:=.arr id j i o n) e h l
 |slice id j off len=>exact bm.same (M0:=M0) (a:=.slice id j off len) e h l
 |ref k id=>exact bm.same (M0:=M0) (a:=.ref k id) e h l
 |func fn f c=>exact bm.same (M0:=M0) (a:=.func fn f c) e h l
 |undef=>exact trivial
 |tuple E=>exact h.elim
theorem Rep.same{p}{S u}(e:Same p M0 M1 S u){v}{a}(h:Rep M0 S v a)(l:qz p a):Rep M1 u v a:=by
 cases a with
 |tuple cs=>
  obtain⟨C,rfl,A⟩:=h
  exact⟨C,rfl,A.imp λv c z y=>y.same e (l c z)⟩
 |p q=>exact cO.same (M0:=M0) (a:=.p q) e h l
 |ptr id j i o=>exact cO.same (M0:=M0) (a:=.ptr id j i o) e h l
 |iptr it id=>exact cO.same (M0:=M0) (a:=.iptr it id) e h l
 |arr id j i o n=>exact cO.same (M0:=M0) (a:=.arr id j i o n) e h l
 |slice id j off len=>exact cO.same (M0:=M0) (a:=.slice id j off len) e h l
 |ref k id=>exact cO.same (M0:=M0) (a:=.ref k id) e h l
 |func fn f c=>exact cO.same (M0:=M0) (a:=.func fn f c) e h l
 |undef=>exact trivial
 |agg cs=>exact cO.same (M0:=M0) (a:=.agg cs) e h l
theorem uO{p}{x c}{cs}(hx:x.cells=some cs)(i:qz p x)(a:c∈cs)(e:c.isCell=true):qy p c:=by
 rcases u0 hx with⟨j,rfl⟩|⟨j,rfl⟩|⟨l,rfl⟩
 .simp only[AV.cells,PV.cells,iH]at hx;subst hx;simp only[cX]at a;obtain⟨q,_,rfl⟩:=a;exact trivial
 .simp only[AV.cells,iH]at hx;subst hx;exact i c a
 .simp only[dT]at a;subst a;cases c<;>first|exact i|exact trivial|cases l
theorem ObjOk.same{p}{S J}(e:Same p M0 M1 S J){μ}{o}(h:ObjOk P M0 S μ o)(F:oP p o):ObjOk P M1 J μ o:=by
 cases o with
 |row sz xs=>
  rcases h with h|⟨b,T,C,l,a,u,A⟩
  .exact .inl h
  .refine .inr ⟨b,T,C,l,by rw[e.w];exact a,u,λi x hx=>?_⟩;obtain⟨cs,z,I,G⟩:=A i x hx
   exact⟨cs,z,I,λj c D=>⟨(G j c D).1,bm.same e (G j c D).2 (uO z (F x (aG hx)) (aG D) (G j c D).1)⟩⟩
 |loop n tmps ps assign body M pend=>
  obtain⟨b,r,l,a,u,A,z⟩:=h
  exact⟨b,r,l,by rw[e.w];exact a,u,λt=>Rep.same e (A t) (F t),z⟩
 |strIter s q=>obtain⟨b,l,a⟩:=h;exact⟨b,l,by rw[e.w];exact a⟩
 |mp es=>
  obtain⟨b,C,y,l,a,u⟩:=h
  exact⟨b,C,y,l,by rw[e.w];exact a,u.monoP λv q E=>bm.same e E trivial⟩
 |memo f=>
  obtain⟨K,es,L,b,C,y,l,a,u⟩:=h
  exact⟨K,es,L,b,C,y,l,by rw[e.w];exact a,u.monoP λv q E=>bm.same e E trivial⟩
 |dblock=>obtain⟨b,l,a⟩:=h;exact⟨b,l,by rw[e.w];exact a⟩
 |bld T N x=>
  obtain⟨b,q,v,l,a,u,A,z,I⟩:=h
  exact⟨b,q,v,l,by rw[e.w];exact a,u,A,bB.same e z F,by rw[e.w];exact I⟩
 |dead=>exact trivial
theorem ObjOk.keepF{S G}(e:Ev S.h.length S G){μ}{o}(hw:∀b,μ=some b->G.w.heap[b]?=S.w.heap[b]?)(h:ObjOk P M0 S μ o):ObjOk P M0 G μ o:=by
 cases o with
 |row sz xs=>
  rcases h with h|⟨b,T,C,l,u,y,D⟩
  .exact .inl h
  .refine .inr ⟨b,T,C,l,by rw[hw b l];exact u,y,λi x hx=>?_⟩;obtain⟨cs,A,F,K⟩:=D i x hx
   exact⟨cs,A,F,λj c I=>⟨(K j c I).1,e.keepS (K j c I).2⟩⟩
 |loop n tmps ps assign body R pend=>
  obtain⟨b,r,l,u,y,D,A⟩:=h
  exact⟨b,r,l,by rw[hw b l];exact u,y,λt=>e.keep (D t),A⟩
 |strIter s q=>obtain⟨b,l,u⟩:=h;exact⟨b,l,by rw[hw b l];exact u⟩
 |mp es=>
  obtain⟨b,C,z,l,u,y⟩:=h
  exact⟨b,C,z,l,by rw[hw b l];exact u,y.mono λv a E=>e.keepS E⟩
 |memo f=>
  obtain⟨M,es,O,b,C,z,l,u,y⟩:=h
  exact⟨M,es,O,b,C,z,l,by rw[hw b l];exact u,y.mono λv a E=>e.keepS E⟩
 |dblock=>obtain⟨b,l,u⟩:=h;exact⟨b,l,by rw[hw b l];exact u⟩
 |bld T U x=>
  obtain⟨b,q,v,l,u,y,D,A,F⟩:=h;refine⟨b,q,v,l,by rw[hw b l];exact u,y,D,e.rep0 A (fb A),λa n c L=>?_⟩;obtain⟨N,J⟩:=F a n c L
  exact⟨N,(e.fr.shape _ (ql J)).trans J⟩
 |dead=>exact trivial
theorem fL{a e:List (Option Nat)}{id}(h:id<a.length):(a++e).getD id none=a.getD id none:=by
 rw[cr,cr,bp h]
theorem g'{f}{args}{h}{R:AEnd->Heap->Prop}(b6:∀o,o∈h->aX h.length o)(a5:∀a,a∈args->below h.length a)
  (k:ar P f args h (λr h'=>h'.length=h.length/\R r h')) (t):ar P f args (h++t) (λr b7=>∃h',b7=h'++t/\h'.length=h.length/\R r h'):=by
 intro M0 m w a6 J ha;have X:m.length=(h++t).length:=J.len;rw[aL]at X;obtain⟨u,q,rfl,a2⟩:∃u q,m=u++q/\u.length=h.length:=⟨m.take h.length,m.drop h.length,(mE _ _).symm,by simp;omega⟩
 have b8:q.length=t.length:=by rw[aL]at X;omega
 have E:∀b,Own u b->Own (u++q) b:=λb l=>ck.2 (.inl l);have z:∀b,Own q b->Own (u++q) b:=λb l=>ck.2 (.inr l);have Z:∀b,Own u b->Own q b->False:=λb A K=>by
  obtain⟨i,hi⟩:=eF A;obtain⟨j,hj⟩:=eF K;have a3:i<u.length:=(aB.1 hi).1;have:=J.inj i (u.length+j) b (by show (u++q)[i]?=_;rw[bp a3];exact hi) (by show (u++q)[u.length+j]?=_;rw[cG (by omega)];simpa using hj);omega
 let M1:Nat->Prop:=λb=>M0 b\/Own q b
 have Y:Same (·<h.length) M0 M1 ⟨u++q,h++t,w⟩ ⟨u,h,w⟩:=
  {w:=rfl
   h:=λid C _=>⟨(bp C).symm,(fL (by have A:id<h.length:=C;show id<u.length;omega)).symm⟩
   av:=λb l=>by
    rcases l with(l|l)|l
    .exact .inl l
    .exact .inr (z b l)
    .exact .inr (E b l) }
 have b3:HOk P M1 ⟨u,h,w⟩:=
  {len:=a2
   lt:=λb l=>J.lt b (E b l)
   m0:=λb l=>by
    rcases l with l|l
    .exact⟨(J.m0 b l).1,λS=>(J.m0 b l).2 (E b S)⟩
    .exact⟨J.lt b (z b l),λS=>Z b S l⟩
   inj:=λi j b hi hj=>by
    have a3:i<u.length:=(aB.1 hi).1;have b4:j<u.length:=(aB.1 hj).1;exact J.inj i j b (by simpa[bp a3]using hi) (by simpa[bp b4]using hj)
   obj:=λid o C=>by
    have b0:id<h.length:=(aB.1 C).1;have:=J.obj id o (by show (h++t)[id]?=_;rw[bp b0];exact C);rw[show (Mem.m ⟨u++q,h++t,w⟩).getD id none=u.getD id none from fL (by omega)]at this;exact this.same Y (DN (b6 o (aG C)))
   gl:=⟨J.gl.1,λb hg N=>J.gl.2 b hg (E b N)⟩ }
 have:=k M1 u w a6 b3 ⟨ha.1,λi c hi=>(ha.2 i c hi).same Y (uN (a5 c (aG hi)))⟩;refine⟨this.1,this.2.mono λe w' hh=>?_⟩;obtain⟨r,h',m',⟨T,hR⟩,D,U,I⟩:=hh;have a1:m'.length=h'.length:=U.len;have V:∀b,Own m' b->Own q b->False:=λb A K=>(U.m0 b (.inr K)).2 A
 have M:Same (λ_=>True) M1 M0 ⟨m',h',w'⟩ ⟨m'++q,h'++t,w'⟩:=
  {w:=rfl
   h:=λid _ C=>⟨bp C,fL (by show id<m'.length;rw[a1];exact C)⟩
   av:=λb l=>by
    rcases l with l|l
    .exact .inl (.inl l)
    .rcases ck.1 l with l|l
     .exact .inr l
     .exact .inl (.inr l) }
 have L:∀a:AV,qz (λ_=>True) a:=by
  have h0:∀a:AV,pf (λ_=>True) a:=λa=>by cases a<;>exact trivial
  have A:∀a:AV,qy (λ_=>True) a:=λa=>by cases a<;>first|exact trivial|exact⟨λc _=>h0 c,λc _=>h0 c⟩
  have K:∀a:AV,rL (λ_=>True) a:=λa=>by cases a<;>first|exact trivial|exact λc _=>A c|exact⟨λc _=>h0 c,λc _=>h0 c⟩
  exact λa=>by cases a<;>first|exact trivial|exact λc _=>K c|exact λc _=>A c|exact⟨λc _=>h0 c,λc _=>h0 c⟩
 have a9:∀o:AObj,oP (λ_=>True) o:=λo=>by
  cases o<;>first|exact trivial|exact λx _=>L x|exact λt=>L _|skip
  rename_i x;cases x<;>exact trivial
 have a0:Ev (h++t).length ⟨u++q,h++t,w⟩ ⟨m'++q,h'++t,w'⟩:=
  {fr:=⟨D.fr.os,D.fr.tape,D.fr.output,D.fr.size,λb l S=>D.fr.block b l λN=>S (E b N),D.fr.shape⟩
   sub:=λb l=>by
    rcases ck.1 l with l|l
    .rcases D.sub b l with A|A
     .exact .inl (E b A)
     .exact .inr A
    .exact .inl (z b l)
   obj:=λid o C N=>by
    rcases cx id h.length with a7|b5
    .have b1:h[id]?=some o:=by
      have:(h++t)[id]?=some o:=N;rwa [bp a7]at this
     obtain⟨o',A,K⟩:=D.obj id o a7 b1;refine⟨o',?_,?_⟩
     .show (h'++t)[id]?=_;rw[bp (by omega)];exact A
     .show ObjEv ((u++q).getD id none) _ ((m'++q).getD id none) _;rw[fL (by omega),fL (by omega)];exact K
    .refine⟨o,?_,?_⟩
     .have:(h++t)[id]?=some o:=N;show (h'++t)[id]?=_;rw[cG b5]at this;rw[cG (by omega),T];exact this
     .have e1:(u++q).getD id none=q.getD (id-h.length) none:=by
       rw[cr,cr,cG (by omega),a2]
      have e2:(m'++q).getD id none=q.getD (id-h.length) none:=by
       rw[cr,cr,cG (by omega),a1,T]
      show ObjEv ((u++q).getD id none) _ ((m'++q).getD id none) _;rw[e1,e2]
      exact ObjEv.refl _ _ }
 have a4:Ev (Mem.h ⟨u++q,h++t,w⟩).length ⟨u++q,h++t,w⟩ ⟨m'++q,h'++t,w'⟩:=a0
 have b2:HOk P M0 ⟨m'++q,h'++t,w'⟩:=
  {len:=by simp;omega
   lt:=λb l=>by
    rcases ck.1 l with l|l
    .exact U.lt b l
    .exact gk (J.lt b (z b l)) D.fr.size
   m0:=λb l=>⟨(U.m0 b (.inl l)).1,λS=>by
    rcases ck.1 S with S|S
    .exact(U.m0 b (.inl l)).2 S
    .exact(J.m0 b l).2 (z b S)⟩
   inj:=λi j b hi hj=>by
    have G:(m'++q)[i]?=some (some b):=hi;have F:(m'++q)[j]?=some (some b):=hj;rcases cx i m'.length with A|A<;>rcases cx j m'.length with K|K
    .rw[bp A]at G;rw[bp K]at F;exact U.inj i j b G F
    .rw[bp A]at G;rw[cG K]at F;exact(V b (aG G) (aG F)).elim
    .rw[cG A]at G;rw[bp K]at F;exact(V b (aG F) (aG G)).elim
    .rw[cG A]at G;rw[cG K]at F;have:=J.inj (u.length+(i-m'.length)) (u.length+(j-m'.length)) b (by show (u++q)[u.length+(i-m'.length)]?=_;rw[cG (by omega)];simpa using G) (by show (u++q)[u.length+(j-m'.length)]?=_;rw[cG (by omega)];simpa using F);omega
   obj:=λid o C=>by
    have O:(h'++t)[id]?=some o:=C;rcases cx id h'.length with A|A
    .rw[bp A]at O;have:=U.obj id o O;show ObjOk P M0 _ ((m'++q).getD id none) o;rw[fL (by omega)];exact ObjOk.same M this (a9 o)
    .rw[cG A]at O;have e1:(u++q).getD id none=q.getD (id-h.length) none:=by
      rw[cr,cr,cG (by omega),a2]
     have e2:(m'++q).getD id none=q.getD (id-h.length) none:=by
      rw[cr,cr,cG (by omega),a1,T]
     have:=J.obj id o (by show (h++t)[id]?=_;rw[cG (by omega),<-T];exact O);rw[show (Mem.m ⟨u++q,h++t,w⟩).getD id none=(u++q).getD id none from rfl,e1]at this;show ObjOk P M0 _ ((m'++q).getD id none) o;rw[e2];refine this.keepF a4 λb l=>?_;have a8:Own q b:=by
      rw[cr]at l
      cases hx:q[id-h.length]? with
      |none=>rw[hx]at l;cases l
      |some y=>rw[hx]at l;cases l;exact aG hx
     exact D.fr.block b (J.lt b (z b a8)) λN=>Z b N a8
   gl:=⟨U.gl.1,λb hg N=>by
    rcases ck.1 N with N|N
    .exact U.gl.2 b hg N
    .exact J.gl.2 b hg (z b N)⟩ }
 refine⟨r,h'++t,m'++q,⟨h',rfl,T,hR⟩,a0,b2,?_⟩
 cases e with
 |returned v'=>
  cases r with
  |panic v=>exact I.elim
  |ret a=>exact Rep.same M (show Rep M1 ⟨m',h',w'⟩ v' a from I) (L a)
 |panicked ch=>
  cases r with
  |ret a=>exact I.elim
  |panic v=>
   obtain⟨v',A,K⟩:=I
   exact⟨v',A,RepP.less (show RepP (Avoid M1 m') w' v' v from K) M.av⟩
 |outgrown=>exact I.elim
theorem l'{m}{k b}(h:Own (m.set k none) b):Own m b:=by
 rcases H' h with h|h
 .exact h
 .cases h
theorem kV{m:List (Option Nat)}{k id}(h:id≠k):(m.set k none).getD id none=m.getD id none:=by
 rw[cr,cr,db (Ne.symm h)]
theorem sd{m:List (Option Nat)}{k}:(m.set k none).getD k none=none:=by
 rw[cr,HT];simp only[if_true];split<;>rfl
def yw (k:Nat) (x y:AV):Prop:=∃cs ds,x.cells=some cs/\y.cells=some ds/\ds.length=cs.length/\∀(j:Nat) (c d:AV),cs[j]?=some c->ds[j]?=some d->d=c\/(c=.p .nilslice/\d=.slice k 0 0 0)
theorem sN{A}{T}(k i sz s)(xs ys)(hk:A.bs<=k)(hi:A.bs<=i)(a5:k<A.h.length)(a1:i≠k)(hx:A.h[i]?=some (.row s xs))(V:ys.length=xs.length)
  (a3:∀(n:Nat) (x y),xs[n]?=some x->ys[n]?=some y->yw k x y) (ht:∀t,(T t=A.tmps t/\qz (·≠k) (A.tmps t))\/T t=.undef)
  (ho:∀(id) (o),id≠k->A.h[id]?=some o->oP (·≠k) o) (hd:A.df=[]):fS P A { A with tmps:=T,h:=(A.h.set k (.row sz [])).set i (.row s ys) }:=
 ⟨rfl,rfl,λM0 S0 b cs0 m a w D=>by
  refine⟨m.set k none,?_⟩;have b0:m.length=A.h.length:=D.hok.len
  have b5:Same (·≠k) M0 M0 ⟨m,A.h.set i (.row s ys),w⟩ ⟨m.set k none,(A.h.set k (.row sz [])).set i (.row s ys),w⟩:=
   {w:=rfl
    h:=λid I _=>⟨by
      show ((A.h.set k (.row sz [])).set i (.row s ys))[id]?=(A.h.set i (.row s ys))[id]?
      rw[List.set_comm _ _ (Ne.symm a1),db (Ne.symm I)],kV I⟩
    av:=λb u=>u.imp id l' }
  have b7:Same (·≠k) M0 M0 ⟨m,A.h,w⟩ ⟨m,A.h,w⟩:=⟨rfl,λ_ _ _=>⟨rfl,rfl⟩,λ_ h=>h⟩
  have live:∀{id l:Nat} {X:Nat->Option Nat->Prop},id≠k->cC ⟨m,A.h,w⟩ id l X->cC ⟨m.set k none,(A.h.set k (.row sz [])).set i (.row s ys),w⟩ id l X:=by
   intro id l X I h;have e2:(m.set k none).getD id none=m.getD id none:=kV I;by_cases J:id=i
   .subst J;have a0:id<(A.h.set k (.row sz [])).length:=by simp;exact(aB.1 hx).1
    rcases h with h|⟨S,xs',h,G,z⟩
    .have h':A.h[id]?=some .dead:=h;rw[hx]at h';cases h'
    .have h':A.h[id]?=some (.row S xs'):=h;rw[hx]at h';cases h';refine .inr ⟨s,ys,fZ a0,by omega,λhe=>?_⟩;show X s ((m.set k none).getD id none);rw[e2];exact z (by omega)
   .unfold cC at *
    have e1:((A.h.set k (.row sz [])).set i (.row s ys))[id]?=A.h[id]?:=by
     rw[db (Ne.symm J),db (Ne.symm I)]
    show (((A.h.set k (.row sz [])).set i (.row s ys))[id]?=some .dead\/∃S xs',((A.h.set k (.row sz [])).set i (.row s ys))[id]?=some (.row S xs')/\l<=xs'.length/\(xs'.length=l->X S ((m.set k none).getD id none)));rw[e1,e2];exact h
  have rep0:∀{v:Value} {a:AV},bB M0 ⟨m,A.h,w⟩ v a->pf (·≠k) a->bB M0 ⟨m.set k none,(A.h.set k (.row sz [])).set i (.row s ys),w⟩ v a:=by
   intro v a h u
   cases a with
   |p q=>exact RepP.less (show RepP (Avoid M0 m) w v q from h) λb u=>u.imp id l'
   |ptr id l i' o=>exact⟨h.1,live u h.2⟩
   |iptr it id=>exact⟨h.1,live u h.2⟩
   |arr id l i o n=>exact⟨h.1,live u h.2⟩
   |slice id l off len=>exact⟨h.1,live (X:=sliceAt w v l off len) u h.2⟩
   |ref q id=>
    refine⟨h.1,?_⟩;have J:id≠i\/A.h[id]?=some (.row s xs):=by
     by_cases e:id=i
     .subst e;exact .inr hx
     .exact .inl e
    rcases J with J|J
    .have e1:((A.h.set k (.row sz [])).set i (.row s ys))[id]?=A.h[id]?:=by
      rw[db (Ne.symm J),db (Ne.symm u)]
     have e2:(m.set k none).getD id none=m.getD id none:=kV u;show (((A.h.set k (.row sz [])).set i (.row s ys))[id]?=some .dead\/(∃o,((A.h.set k (.row sz [])).set i (.row s ys))[id]?=some o/\o.tag=some q)/\∃b,(m.set k none).getD id none=some b/\v=uv q b);rw[e1,e2];exact h.2
    .rcases h.2 with z|⟨⟨o,z,L⟩,_⟩
     .have N:A.h[id]?=some .dead:=z;rw[J]at N;cases N
     .have N:A.h[id]?=some o:=z
      rw[J]at N;cases N;cases L
   |undef=>exact trivial
   |agg cs=>exact h.elim
   |func fn f c=>exact h.elim
   |tuple vs=>exact h.elim
  have repS:∀{v:Value} {a:AV},bm M0 ⟨m,A.h,w⟩ v a->qy (·≠k) a->bm M0 ⟨m.set k none,(A.h.set k (.row sz [])).set i (.row s ys),w⟩ v a:=by
   intro v a h u
   cases a with
   |func fn f c=>
    obtain⟨F,C,rfl,G,z⟩:=h
    exact⟨F,C,rfl,G.imp λv c K D=>rep0 D (u.1 c K),z.imp λv c K D=>rep0 D (u.2 c K)⟩
   |p q=>exact rep0 (a:=.p q) h u
   |ptr id l i o=>exact rep0 (a:=.ptr id l i o) h u
   |iptr it id=>exact rep0 (a:=.iptr it id) h u
   |arr id l i o n=>exact rep0 (a:=.arr id l i o n) h u
   |slice id l off len=>exact rep0 (a:=.slice id l off len) h u
   |ref q id=>exact rep0 (a:=.ref q id) h u
   |undef=>exact trivial
   |agg cs=>exact h.elim
   |tuple vs=>exact h.elim
  have repA:∀{v:Value} {a:AV},cO M0 ⟨m,A.h,w⟩ v a->rL (·≠k) a->cO M0 ⟨m.set k none,(A.h.set k (.row sz [])).set i (.row s ys),w⟩ v a:=by
   intro v a h u
   cases a with
   |agg cs=>
    obtain⟨C,rfl,G,z⟩:=h
    exact⟨C,rfl,G,z.imp λv c K D=>repS D (u c K)⟩
   |p q=>exact repS (a:=.p q) h u
   |ptr id l i o=>exact repS (a:=.ptr id l i o) h u
   |iptr it id=>exact repS (a:=.iptr it id) h u
   |arr id l i o n=>exact repS (a:=.arr id l i o n) h u
   |slice id l off len=>exact repS (a:=.slice id l off len) h u
   |ref q id=>exact repS (a:=.ref q id) h u
   |func fn f c=>exact repS (a:=.func fn f c) h u
   |undef=>exact trivial
   |tuple vs=>exact h.elim
  have rep:∀{v:Value} {a:AV},Rep M0 ⟨m,A.h,w⟩ v a->qz (·≠k) a->Rep M0 ⟨m.set k none,(A.h.set k (.row sz [])).set i (.row s ys),w⟩ v a:=by
   intro v a h u
   cases a with
   |tuple cs=>
    obtain⟨C,rfl,z⟩:=h
    exact⟨C,rfl,z.imp λv c K D=>repA D (u c K)⟩
   |p q=>exact repA (a:=.p q) h u
   |ptr id l i o=>exact repA (a:=.ptr id l i o) h u
   |iptr it id=>exact repA (a:=.iptr it id) h u
   |arr id l i o n=>exact repA (a:=.arr id l i o n) h u
   |slice id l off len=>exact repA (a:=.slice id l off len) h u
   |ref q id=>exact repA (a:=.ref q id) h u
   |func fn f c=>exact repA (a:=.func fn f c) h u
   |undef=>exact trivial
   |agg cs=>exact repA (a:=.agg cs) h u
  have b6:∀{b T s':Nat} {C:Array Value} {x y:AV} {n:Nat},True:=λ{_ _ _ _ _ _ _}=>trivial;have a0:i<A.h.length:=(aB.1 hx).1;refine⟨D.size,λt=>?_,?_,?_,?_,?_,?_⟩
  .show Rep M0 _ _ (T t);rcases ht t with⟨e,u⟩|e
   .rw[e];exact rep (D.tmps t) u
   .rw[e];exact trivial
  .exact
   {len:=by simp;exact b0
    lt:=λb u=>D.hok.lt b (l' u)
    m0:=λb u=>⟨(D.hok.m0 b u).1,λY=>(D.hok.m0 b u).2 (l' Y)⟩
    inj:=λi' j' b U b2=>by
     have a4:∀n:Nat,(m.set k none)[n]?=some (some b)->m[n]?=some (some b):=by
      intro n Y;rw[HT]at Y;split at Y
      .split at Y<;>cases Y
      .exact Y
     exact D.hok.inj i' j' b (a4 i' U) (a4 j' b2)
    obj:=λid o I=>by
     have E:((A.h.set k (.row sz [])).set i (.row s ys))[id]?=some o:=I;show ObjOk P M0 _ ((m.set k none).getD id none) o;by_cases M:id=k
     .subst M;rw[db a1,fZ (by simpa using a5)]at E;cases E;rw[sd];exact .inl ⟨rfl,rfl⟩
     .rw[kV M];by_cases U:id=i
      .subst U;rw[fZ (by simpa using a0)]at E;cases E;have:=D.hok.obj id _ hx;rcases this with⟨G,z⟩|⟨bl,T',C,G,z,L,R⟩
       .refine .inl ⟨G,?_⟩;subst z;exact sy V
       .refine .inr ⟨bl,T',C,G,z,by rw[V];exact L,λn y hy=>?_⟩;have a9:n<xs.length:=by have:=(aB.1 hy).1;omega
        obtain⟨x,Z⟩:∃x,xs[n]?=some x:=⟨_,bO a9⟩
        obtain⟨cs,ds,e1,e2,e3,e4⟩:=a3 n x y Z hy;obtain⟨b9,O,h6,h7⟩:=R n x Z;rw[e1]at O;cases O;refine⟨ds,e2,by omega,λj d a6=>?_⟩;have b1:j<cs.length:=by have:=(aB.1 a6).1;omega
        obtain⟨c,K⟩:∃c,cs[j]?=some c:=⟨_,bO b1⟩
        obtain⟨h8,h9⟩:=h7 j c K;rcases e4 j c d K a6 with rfl|⟨rfl,rfl⟩
        .exact⟨h8,repS h9 (uO e1 (ho id _ M hx x (aG Z)) (aG K) h8)⟩
        .refine⟨rfl,?_⟩;have a7:RepP (Avoid M0 m) w (C.getD (n*s+j) undef) .nilslice:=h9;generalize C.getD (n*s+j) undef=v at a7 |-;cases a7;refine⟨⟨none,0,0,rfl⟩,.inr ⟨sz,[],?_,ba _,λ_=>.inr (.inr ⟨?_,rfl,rfl⟩)⟩⟩
         .show ((A.h.set k (.row sz [])).set id (.row s ys))[k]?=_;rw[db a1,fZ a5]
         .exact sd
      .rw[db (Ne.symm U),db (Ne.symm M)]at E;have:=D.hok.obj id o E;have u:=ho id o M E;have this:ObjOk P M0 ⟨m,A.h,w⟩ (m.getD id none) o:=this;generalize m.getD id none=μ at this |-
       cases o with
       |row sz xs=>
        rcases this with h|⟨b,T,C,G,z,L,R⟩
        .exact .inl h
        .refine .inr ⟨b,T,C,G,z,L,λi x hx=>?_⟩;obtain⟨cs,O,h6,h7⟩:=R i x hx
         exact⟨cs,O,h6,λj c K=>⟨(h7 j c K).1,repS (h7 j c K).2 (uO O (u x (aG hx)) (aG K) (h7 j c K).1)⟩⟩
       |loop n tmps ps assign body st pend=>
        obtain⟨b,r,G,z,L,R,O⟩:=this
        exact⟨b,r,G,z,L,λt=>rep (R t) (u t),O⟩
       |strIter s p=>exact this
       |mp es=>
        obtain⟨b,C,a2,G,z,L⟩:=this
        exact⟨b,C,a2,G,z,L.monoP λv q hq=>repS hq trivial⟩
       |memo f=>
        obtain⟨hg,es,hf,b,C,a2,G,z,L⟩:=this
        exact⟨hg,es,hf,b,C,a2,G,z,L.monoP λv q hq=>repS hq trivial⟩
       |dblock=>exact this
       |bld T el x=>
        obtain⟨b,p,v,G,z,L,R,O,h6⟩:=this
        exact⟨b,p,v,G,z,L,R,rep0 O u,h6⟩
       |dead=>exact trivial
    gl:=D.hok.gl.fr (λ_ _ _=>rfl) λb u=>.inl (l' u) }
  .exact
   {fr:=D.ev.fr
    sub:=λx hx=>D.ev.sub x (l' hx)
    obj:=λid o I a8=>by
     obtain⟨o',G,z⟩:=D.ev.obj id o I a8;have b8:id<A.bs:=I;refine⟨o',?_,?_⟩
     .show ((A.h.set k (.row sz [])).set i (.row s ys))[id]?=_;rw[db (by omega),db (by omega)];exact G
     .show ObjEv _ _ ((m.set k none).getD id none) _;rw[kV (by omega)]
      exact z }
  .exact⟨by simp;exact D.le.1,D.le.2⟩
  .have:=D.df;rw[hd]at this;show DefsRep P M0 _ a.defers A.df;rw[hd]
   cases b3:a.defers with
   |nil=>exact trivial
   |cons d ds=>rw[b3]at this;exact this.elim
  .have:=D.rc;show RcRep M0 _ b cs0 A.rc;cases K:A.rc<;>rw[K]at this<;>first|exact this|skip
   obtain⟨G,z,v',b4,L,R⟩:=this
   exact⟨G,z,v',b4,L,RepP.less R λb u=>u.imp id l'⟩⟩
variable {H:Hints} {Q:Cont}
theorem Q5{σ}{V:σ->Prop}{I}{μ}{s}{A B}(hw:fS P A B)(k:@WQ ⟨eH (g8 P V I μ s) Q⟩ .normal B):@WQ ⟨eH (g8 P V I μ s) Q⟩ .normal A:=by
 obtain⟨a,j,i,e⟩:=k;exact⟨a,j,i,hw.trans e⟩
theorem Da{A}(sz):fS P A { A with h:=A.h++[.row sz []] }:=Db sz λ_=>.inl rfl
end Abs
end Go.Proofs.YtmndpldajflenaaGreatDoor
