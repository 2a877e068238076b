/- LAWS: a call that is known from a part of the caller's memory is known from all of it; a r -/
import Derived.Test.YtmndpldajflenaaGreatDoorTrBX
set_option linter.all false
namespace Go.Proofs.YtmndpldajflenaaGreatDoor
namespace Abs
variable {P:Program} {M0 M1:Nat->Prop}
def qY (p:Nat->Prop):AV->Prop
 |.ptr id _ _ _=>p id
 |.slice id _ _ _=>p id
 |.ref _ id=>p id
 |.iptr _ id=>p id
 |.arr id _ _ _ _=>p id
 |_=>True
def sA (p:Nat->Prop):AV->Prop
 |.func _ first cap=>(∀c,c∈first->qY p c)/\∀c,c∈cap->qY p c
 |a=>qY p a
def ux (p:Nat->Prop):AV->Prop
 |.agg cs=>∀c,c∈cs->sA p c
 |a=>sA p a
def vE (p:Nat->Prop):AV->Prop
 |.tuple cs=>∀c,c∈cs->ux p c
 |a=>ux p a
def sa (p:Nat->Prop):AObj->Prop
 |.row _ xs=>∀x,x∈xs->vE p x
 |.loop _ tmps _ _ _ _ _=>∀t,vE p (tmps t)
 |.bld _ _ x=>qY p x
 |_=>True
theorem iE{n}{a}(h:bP n a):qY (·<n) a:=by
 cases a<;>first|exact h|exact trivial
theorem vD{n}{a}(h:bS n a):sA (·<n) a:=by
 cases a<;>first|exact h|exact trivial|exact⟨λc hc=>iE (h.1 c hc),λc hc=>iE (h.2 c hc)⟩
theorem Ek{n}{a}(h:de n a):ux (·<n) a:=by
 cases a<;>first|exact h|exact trivial|exact λc hc=>vD (h c hc)|exact⟨λc hc=>iE (h.1 c hc),λc hc=>iE (h.2 c hc)⟩
theorem sx{n}{a}(h:below n a):vE (·<n) a:=by
 cases a<;>first|exact h|exact trivial|exact λc hc=>Ek (h c hc)|exact λc hc=>vD (h c hc)|exact⟨λc hc=>iE (h.1 c hc),λc hc=>iE (h.2 c hc)⟩
theorem Am{n}{o}(h:bw n o):sa (·<n) o:=by
 cases o<;>first|exact trivial|exact λx hx=>sx (h x hx)|exact λt=>sx (h t)|exact iE h
structure Same (p:Nat->Prop) (M0 M1:Nat->Prop) (S S':Mem):Prop where
 w:S'.w=S.w
 h:∀id,p id->id<S.h.length->S'.h[id]?=S.h[id]?/\S'.m.getD id none=S.m.getD id none
 av:∀b,Avoid M1 S'.m b->Avoid M0 S.m b
theorem b8.same{p}{S S'}(e:Same p M0 M1 S S'){id ver}{X}(h:b8 S id ver X)(hid:p id):b8 S' id ver X:=by
 obtain⟨e1,e2⟩:=e.h id hid (lc h);unfold b8 at *
 rw[e1,e2];exact h
theorem bp.same{p}{S S'}(e:Same p M0 M1 S S'){v}{a}(h:bp M0 S v a)(hb:qY p a):bp M1 S' v a:=by
 cases a with
 |p q=>
  show RepP (Avoid M1 S'.m) S'.w v q;rw[e.w]
  exact RepP.less (show RepP (Avoid M0 S.m) S.w v q from h) e.av
 |ptr id ver i o=>exact⟨h.1,h.2.same e hb⟩
 |iptr it id=>exact⟨h.1,h.2.same e hb⟩
 |arr id ver i o n=>exact⟨h.1,h.2.same e hb⟩
 |slice id ver off len=>
  refine⟨h.1,?_⟩;rw[e.w]
  exact b8.same e h.2 hb
 |ref k id=>
  refine⟨h.1,?_⟩;have hl:id<S.h.length:=by
   rcases h.2 with h2|⟨⟨_,h2,_⟩,_⟩<;>exact(aA.1 h2).1
  obtain⟨e1,e2⟩:=e.h id hb hl;rw[e1,e2]
  exact h.2
 |undef=>exact trivial
 |agg cs=>exact h.elim
 |func fn f c=>exact h.elim
 |tuple vs=>exact h.elim
theorem aY.same{p}{S S'}(e:Same p M0 M1 S S'){v}{a}(h:aY M0 S v a)(hb:sA p a):aY M1 S' v a:=by
 cases a with
 |func fn f c=>
  obtain⟨F,C,rfl,h1,h2⟩:=h
  exact⟨F,C,rfl,h1.imp λv c hc hr=>hr.same e (hb.1 c hc),h2.imp λv c hc hr=>hr.same e (hb.2 c hc)⟩
 |p q=>exact bp.same (M0:=M0) (a:=.p q) e h hb
 |ptr id ver i o=>exact bp.same (M0:=M0) (a:=.ptr id ver i o) e h hb
 |iptr it id=>exact bp.same (M0:=M0) (a:=.iptr it id) e h hb
 |arr id ver i o n=>exact bp.same (M0:=M0) (a:=.arr id ver i o n) e h hb
 |slice id ver off len=>exact bp.same (M0:=M0) (a:=.slice id ver off len) e h hb
 |ref k id=>exact bp.same (M0:=M0) (a:=.ref k id) e h hb
 |undef=>exact trivial
 |agg cs=>exact h.elim
 |tuple vs=>exact h.elim
theorem cc.same{p}{S S'}(e:Same p M0 M1 S S'){v}{a}(h:cc M0 S v a)(hb:ux p a):cc M1 S' v a:=by
 cases a with
 |agg cs=>
  obtain⟨C,rfl,h1,h2⟩:=h
  exact⟨C,rfl,h1,h2.imp λv c hc hr=>hr.same e (hb c hc)⟩
 |p q=>exact aY.same (M0:=M0) (a:=.p q) e h hb
 |ptr id ver i o=>exact aY.same (M0:=M0) (a:=.ptr id ver i o) e h hb
 |iptr it id=>exact aY.same (M0:=M0) (a:=.iptr it id) e h hb
 |arr id ver i o n=>exact aY.same (M0:=M0) (a:=.arr id ver i o n) e h hb
 |slice id ver off len=>exact aY.same (M0:=M0) (a:=.slice id ver off len) e h hb
 |ref k id=>exact aY.same (M0:=M0) (a:=.ref k id) e h hb
 |func fn f c=>exact aY.same (M0:=M0) (a:=.func fn f c) e h hb
 |undef=>exact trivial
 |tuple vs=>exact h.elim
theorem Rep.same{p}{S S'}(e:Same p M0 M1 S S'){v}{a}(h:Rep M0 S v a)(hb:vE p a):Rep M1 S' v a:=by
 cases a with
 |tuple cs=>
  obtain⟨C,rfl,h2⟩:=h
  exact⟨C,rfl,h2.imp λv c hc hr=>hr.same e (hb c hc)⟩
 |p q=>exact cc.same (M0:=M0) (a:=.p q) e h hb
 |ptr id ver i o=>exact cc.same (M0:=M0) (a:=.ptr id ver i o) e h hb
 |iptr it id=>exact cc.same (M0:=M0) (a:=.iptr it id) e h hb
 |arr id ver i o n=>exact cc.same (M0:=M0) (a:=.arr id ver i o n) e h hb
 |slice id ver off len=>exact cc.same (M0:=M0) (a:=.slice id ver off len) e h hb
 |ref k id=>exact cc.same (M0:=M0) (a:=.ref k id) e h hb
 |func fn f c=>exact cc.same (M0:=M0) (a:=.func fn f c) e h hb
 |undef=>exact trivial
 |agg cs=>exact cc.same (M0:=M0) (a:=.agg cs) e h hb
theorem sy{p}{x c}{cs}(hx:x.cells=some cs)(hb:vE p x)(hc:c∈cs)(hcell:c.isCell=true):sA p c:=by
 rcases sQ hx with⟨l',rfl⟩|⟨l',rfl⟩|⟨h1,rfl⟩
 .simp only[AV.cells,PV.cells,iy]at hx;subst hx;simp only[eK]at hc;obtain⟨q,_,rfl⟩:=hc;exact trivial
 .simp only[AV.cells,iy]at hx;subst hx;exact hb c hc
 .simp only[DA]at hc;subst hc;cases c<;>first|exact hb|exact trivial|cases h1
theorem ObjOk.same{p}{S S'}(e:Same p M0 M1 S S'){μ}{o}(h:ObjOk P M0 S μ o)(hb:sa p o):ObjOk P M1 S' μ o:=by
 cases o with
 |row sz xs=>
  rcases h with h|⟨b,T,C,h1,h2,h3,h4⟩
  .exact .inl h
  .refine .inr ⟨b,T,C,h1,by rw[e.w];exact h2,h3,λi x hx=>?_⟩;obtain⟨cs,h5,h6,h7⟩:=h4 i x hx
   exact⟨cs,h5,h6,λj c hc=>⟨(h7 j c hc).1,aY.same e (h7 j c hc).2 (sy h5 (hb x (aV hx)) (aV hc) (h7 j c hc).1)⟩⟩
 |loop n tmps ps assign body st pend=>
  obtain⟨b,r,h1,h2,h3,h4,h5⟩:=h
  exact⟨b,r,h1,by rw[e.w];exact h2,h3,λt=>Rep.same e (h4 t) (hb t),h5⟩
 |strIter s q=>obtain⟨b,h1,h2⟩:=h;exact⟨b,h1,by rw[e.w];exact h2⟩
 |mp es=>
  obtain⟨b,C,clk,h1,h2,h3⟩:=h
  exact⟨b,C,clk,h1,by rw[e.w];exact h2,h3.monoP λv q hq=>aY.same e hq trivial⟩
 |memo f=>
  obtain⟨hg,es,hf,b,C,clk,h1,h2,h3⟩:=h
  exact⟨hg,es,hf,b,C,clk,h1,by rw[e.w];exact h2,h3.monoP λv q hq=>aY.same e hq trivial⟩
 |dblock=>obtain⟨b,h1,h2⟩:=h;exact⟨b,h1,by rw[e.w];exact h2⟩
 |bld T el x=>
  obtain⟨b,q,v,h1,h2,h3,h4,h5,h6⟩:=h
  exact⟨b,q,v,h1,by rw[e.w];exact h2,h3,h4,bp.same e h5 hb,by rw[e.w];exact h6⟩
 |dead=>exact trivial
theorem ObjOk.keepF{S S'}(e:Ev S.h.length S S'){μ}{o}(hw:∀b,μ=some b->S'.w.heap[b]?=S.w.heap[b]?)(h:ObjOk P M0 S μ o):ObjOk P M0 S' μ o:=by
 cases o with
 |row sz xs=>
  rcases h with h|⟨b,T,C,h1,h2,h3,h4⟩
  .exact .inl h
  .refine .inr ⟨b,T,C,h1,by rw[hw b h1];exact h2,h3,λi x hx=>?_⟩;obtain⟨cs,h5,h6,h7⟩:=h4 i x hx
   exact⟨cs,h5,h6,λj c hc=>⟨(h7 j c hc).1,e.keepS (h7 j c hc).2⟩⟩
 |loop n tmps ps assign body st pend=>
  obtain⟨b,r,h1,h2,h3,h4,h5⟩:=h
  exact⟨b,r,h1,by rw[hw b h1];exact h2,h3,λt=>e.keep (h4 t),h5⟩
 |strIter s q=>obtain⟨b,h1,h2⟩:=h;exact⟨b,h1,by rw[hw b h1];exact h2⟩
 |mp es=>
  obtain⟨b,C,clk,h1,h2,h3⟩:=h
  exact⟨b,C,clk,h1,by rw[hw b h1];exact h2,h3.mono λv a hr=>e.keepS hr⟩
 |memo f=>
  obtain⟨hg,es,hf,b,C,clk,h1,h2,h3⟩:=h
  exact⟨hg,es,hf,b,C,clk,h1,by rw[hw b h1];exact h2,h3.mono λv a hr=>e.keepS hr⟩
 |dblock=>obtain⟨b,h1,h2⟩:=h;exact⟨b,h1,by rw[hw b h1];exact h2⟩
 |bld T el x=>
  obtain⟨b,q,v,h1,h2,h3,h4,h5,h6⟩:=h;refine⟨b,q,v,h1,by rw[hw b h1];exact h2,h3,h4,e.rep0 h5 (eh h5),λa n c hv=>?_⟩;obtain⟨N,hN⟩:=h6 a n c hv
  exact⟨N,(e.fr.shape _ (nF hN)).trans hN⟩
 |dead=>exact trivial
theorem eI{m1 m2:List (Option Nat)}{id}(h:id<m1.length):(m1++m2).getD id none=m1.getD id none:=by
 rw[bB,bB,br h]
theorem pw{f}{args}{h}{R:AEnd->Heap->Prop}(hcl:∀o,o∈h->bw h.length o)(hargs:∀a,a∈args->below h.length a)
  (k:aN P f args h (λr h'=>h'.length=h.length/\R r h')) (t):aN P f args (h++t) (λr h''=>∃h',h''=h'++t/\h'.length=h.length/\R r h'):=by
 intro M0 m w cargs hS ha;have hlen:m.length=(h++t).length:=hS.len;rw[ay]at hlen;obtain⟨m1,m2,rfl,hm1⟩:∃m1 m2,m=m1++m2/\m1.length=h.length:=⟨m.take h.length,m.drop h.length,(ox _ _).symm,by simp;omega⟩
 have hm2:m2.length=t.length:=by rw[ay]at hlen;omega
 have hsub:∀b,Own m1 b->Own (m1++m2) b:=λb hb=>gu.2 (.inl hb);have hsub2:∀b,Own m2 b->Own (m1++m2) b:=λb hb=>gu.2 (.inr hb);have hdis:∀b,Own m1 b->Own m2 b->False:=λb h1 h2=>by
  obtain⟨i,hi⟩:=eL h1;obtain⟨j,hj⟩:=eL h2;have hi':i<m1.length:=(aA.1 hi).1;have:=hS.inj i (m1.length+j) b (by show (m1++m2)[i]?=_;rw[br hi'];exact hi) (by show (m1++m2)[m1.length+j]?=_;rw[ca (by omega)];simpa using hj);omega
 let M1:Nat->Prop:=λb=>M0 b\/Own m2 b
 have hfor:Same (·<h.length) M0 M1 ⟨m1++m2,h++t,w⟩ ⟨m1,h,w⟩:=
  {w:=rfl
   h:=λid hid _=>⟨(br hid).symm,(eI (by have h1:id<h.length:=hid;show id<m1.length;omega)).symm⟩
   av:=λb hb=>by
    rcases hb with(hb|hb)|hb
    .exact .inl hb
    .exact .inr (hsub2 b hb)
    .exact .inr (hsub b hb) }
 have hk1:HOk P M1 ⟨m1,h,w⟩:=
  {len:=hm1
   lt:=λb hb=>hS.lt b (hsub b hb)
   m0:=λb hb=>by
    rcases hb with hb|hb
    .exact⟨(hS.m0 b hb).1,λhn=>(hS.m0 b hb).2 (hsub b hn)⟩
    .exact⟨hS.lt b (hsub2 b hb),λhn=>hdis b hn hb⟩
   inj:=λi j b hi hj=>by
    have hi':i<m1.length:=(aA.1 hi).1;have hj':j<m1.length:=(aA.1 hj).1;exact hS.inj i j b (by simpa[br hi']using hi) (by simpa[br hj']using hj)
   obj:=λid o hid=>by
    have hid':id<h.length:=(aA.1 hid).1;have:=hS.obj id o (by show (h++t)[id]?=_;rw[br hid'];exact hid);rw[show (Mem.m ⟨m1++m2,h++t,w⟩).getD id none=m1.getD id none from eI (by omega)]at this;exact this.same hfor (Am (hcl o (aV hid)))
   gl:=⟨hS.gl.1,λb hg ho=>hS.gl.2 b hg (hsub b ho)⟩ }
 have:=k M1 m1 w cargs hk1 ⟨ha.1,λi c hi=>(ha.2 i c hi).same hfor (sx (hargs c (aV hi)))⟩;refine⟨this.1,this.2.mono λe w' hh=>?_⟩;obtain⟨r,h',m',⟨hl',hR⟩,hev,hk,hend⟩:=hh;have hml:m'.length=h'.length:=hk.len;have hm1':∀b,Own m' b->Own m2 b->False:=λb h1 h2=>(hk.m0 b (.inr h2)).2 h1
 have hback:Same (λ_=>True) M1 M0 ⟨m',h',w'⟩ ⟨m'++m2,h'++t,w'⟩:=
  {w:=rfl
   h:=λid _ hid=>⟨br hid,eI (by show id<m'.length;rw[hml];exact hid)⟩
   av:=λb hb=>by
    rcases hb with hb|hb
    .exact .inl (.inl hb)
    .rcases gu.1 hb with hb|hb
     .exact .inr hb
     .exact .inl (.inr hb) }
 have hidsT:∀a:AV,vE (λ_=>True) a:=by
  have h0:∀a:AV,qY (λ_=>True) a:=λa=>by cases a<;>exact trivial
  have h1:∀a:AV,sA (λ_=>True) a:=λa=>by cases a<;>first|exact trivial|exact⟨λc _=>h0 c,λc _=>h0 c⟩
  have h2:∀a:AV,ux (λ_=>True) a:=λa=>by cases a<;>first|exact trivial|exact λc _=>h1 c|exact⟨λc _=>h0 c,λc _=>h0 c⟩
  exact λa=>by cases a<;>first|exact trivial|exact λc _=>h2 c|exact λc _=>h1 c|exact⟨λc _=>h0 c,λc _=>h0 c⟩
 have hobT:∀o:AObj,sa (λ_=>True) o:=λo=>by
  cases o<;>first|exact trivial|exact λx _=>hidsT x|exact λt=>hidsT _|skip
  rename_i x;cases x<;>exact trivial
 have hbig:Ev (h++t).length ⟨m1++m2,h++t,w⟩ ⟨m'++m2,h'++t,w'⟩:=
  {fr:=⟨hev.fr.os,hev.fr.tape,hev.fr.output,hev.fr.size,λb hb hn=>hev.fr.block b hb λho=>hn (hsub b ho),hev.fr.shape⟩
   sub:=λb hb=>by
    rcases gu.1 hb with hb|hb
    .rcases hev.sub b hb with h1|h1
     .exact .inl (hsub b h1)
     .exact .inr h1
    .exact .inl (hsub2 b hb)
   obj:=λid o hid ho=>by
    rcases aw id h.length with hlt|hge
    .have ho1:h[id]?=some o:=by
      have:(h++t)[id]?=some o:=ho;rwa [br hlt]at this
     obtain⟨o',h1,h2⟩:=hev.obj id o hlt ho1;refine⟨o',?_,?_⟩
     .show (h'++t)[id]?=_;rw[br (by omega)];exact h1
     .show ObjEv ((m1++m2).getD id none) _ ((m'++m2).getD id none) _;rw[eI (by omega),eI (by omega)];exact h2
    .refine⟨o,?_,?_⟩
     .have:(h++t)[id]?=some o:=ho;show (h'++t)[id]?=_;rw[ca hge]at this;rw[ca (by omega),hl'];exact this
     .have e1:(m1++m2).getD id none=m2.getD (id-h.length) none:=by
       rw[bB,bB,ca (by omega),hm1]
      have e2:(m'++m2).getD id none=m2.getD (id-h.length) none:=by
       rw[bB,bB,ca (by omega),hml,hl']
      show ObjEv ((m1++m2).getD id none) _ ((m'++m2).getD id none) _;rw[e1,e2]
      exact ObjEv.refl _ _ }
 have hbig':Ev (Mem.h ⟨m1++m2,h++t,w⟩).length ⟨m1++m2,h++t,w⟩ ⟨m'++m2,h'++t,w'⟩:=hbig
 have hkb:HOk P M0 ⟨m'++m2,h'++t,w'⟩:=
  {len:=by simp;omega
   lt:=λb hb=>by
    rcases gu.1 hb with hb|hb
    .exact hk.lt b hb
    .exact hP (hS.lt b (hsub2 b hb)) hev.fr.size
   m0:=λb hb=>⟨(hk.m0 b (.inl hb)).1,λhn=>by
    rcases gu.1 hn with hn|hn
    .exact(hk.m0 b (.inl hb)).2 hn
    .exact(hS.m0 b hb).2 (hsub2 b hn)⟩
   inj:=λi j b hi hj=>by
    have hi0:(m'++m2)[i]?=some (some b):=hi;have hj0:(m'++m2)[j]?=some (some b):=hj;rcases aw i m'.length with h1|h1<;>rcases aw j m'.length with h2|h2
    .rw[br h1]at hi0;rw[br h2]at hj0;exact hk.inj i j b hi0 hj0
    .rw[br h1]at hi0;rw[ca h2]at hj0;exact(hm1' b (aV hi0) (aV hj0)).elim
    .rw[ca h1]at hi0;rw[br h2]at hj0;exact(hm1' b (aV hj0) (aV hi0)).elim
    .rw[ca h1]at hi0;rw[ca h2]at hj0;have:=hS.inj (m1.length+(i-m'.length)) (m1.length+(j-m'.length)) b (by show (m1++m2)[m1.length+(i-m'.length)]?=_;rw[ca (by omega)];simpa using hi0) (by show (m1++m2)[m1.length+(j-m'.length)]?=_;rw[ca (by omega)];simpa using hj0);omega
   obj:=λid o hid=>by
    have hid0:(h'++t)[id]?=some o:=hid;rcases aw id h'.length with h1|h1
    .rw[br h1]at hid0;have:=hk.obj id o hid0;show ObjOk P M0 _ ((m'++m2).getD id none) o;rw[eI (by omega)];exact ObjOk.same hback this (hobT o)
    .rw[ca h1]at hid0;have e1:(m1++m2).getD id none=m2.getD (id-h.length) none:=by
      rw[bB,bB,ca (by omega),hm1]
     have e2:(m'++m2).getD id none=m2.getD (id-h.length) none:=by
      rw[bB,bB,ca (by omega),hml,hl']
     have:=hS.obj id o (by show (h++t)[id]?=_;rw[ca (by omega),<-hl'];exact hid0);rw[show (Mem.m ⟨m1++m2,h++t,w⟩).getD id none=(m1++m2).getD id none from rfl,e1]at this;show ObjOk P M0 _ ((m'++m2).getD id none) o;rw[e2];refine this.keepF hbig' λb hb=>?_;have hb2:Own m2 b:=by
      rw[bB]at hb
      cases hx:m2[id-h.length]? with
      |none=>rw[hx]at hb;cases hb
      |some y=>rw[hx]at hb;cases hb;exact aV hx
     exact hev.fr.block b (hS.lt b (hsub2 b hb2)) λho=>hdis b ho hb2
   gl:=⟨hk.gl.1,λb hg ho=>by
    rcases gu.1 ho with ho|ho
    .exact hk.gl.2 b hg ho
    .exact hS.gl.2 b hg (hsub2 b ho)⟩ }
 refine⟨r,h'++t,m'++m2,⟨h',rfl,hl',hR⟩,hbig,hkb,?_⟩
 cases e with
 |returned v'=>
  cases r with
  |panic v=>exact hend.elim
  |ret a=>exact Rep.same hback (show Rep M1 ⟨m',h',w'⟩ v' a from hend) (hidsT a)
 |panicked ch=>
  cases r with
  |ret a=>exact hend.elim
  |panic v=>
   obtain⟨v',h1,h2⟩:=hend
   exact⟨v',h1,RepP.less (show RepP (Avoid M1 m') w' v' v from h2) hback.av⟩
 |outgrown=>exact hend.elim
theorem km{m}{k b}(h:Own (m.set k none) b):Own m b:=by
 rcases List.mem_or_eq_of_mem_set h with h|h
 .exact h
 .cases h
theorem jq{m:List (Option Nat)}{k id}(h:id≠k):(m.set k none).getD id none=m.getD id none:=by
 rw[bB,bB,cq (Ne.symm h)]
theorem pZ{m:List (Option Nat)}{k}:(m.set k none).getD k none=none:=by
 rw[bB,zt];simp only[if_true];split<;>rfl
def Ar (k:Nat) (x y:AV):Prop:=∃cs ds,x.cells=some cs/\y.cells=some ds/\ds.length=cs.length/\∀(j:Nat) (c d:AV),cs[j]?=some c->ds[j]?=some d->d=c\/(c=.p .nilslice/\d=.slice k 0 0 0)
theorem DL{A}{T}(k i sz s)(xs ys)(hk:A.bs<=k)(hi:A.bs<=i)(hkl:k<A.h.length)(hik:i≠k)(hx:A.h[i]?=some (.row s xs))(hlen:ys.length=xs.length)
  (hcell:∀(n:Nat) (x y),xs[n]?=some x->ys[n]?=some y->Ar k x y) (ht:∀t,(T t=A.tmps t/\vE (·≠k) (A.tmps t))\/T t=.undef)
  (ho:∀(id) (o),id≠k->A.h[id]?=some o->sa (·≠k) o) (hd:A.df=[]):fy P A { A with tmps:=T,h:=(A.h.set k (.row sz [])).set i (.row s ys) }:=
 ⟨rfl,rfl,λM0 S0 b cs0 m a w hr=>by
  refine⟨m.set k none,?_⟩;have hml:m.length=A.h.length:=hr.hok.len
  have hsame:Same (·≠k) M0 M0 ⟨m,A.h.set i (.row s ys),w⟩ ⟨m.set k none,(A.h.set k (.row sz [])).set i (.row s ys),w⟩:=
   {w:=rfl
    h:=λid hid _=>⟨by
      show ((A.h.set k (.row sz [])).set i (.row s ys))[id]?=(A.h.set i (.row s ys))[id]?
      rw[List.set_comm _ _ (Ne.symm hik),cq (Ne.symm hid)],jq hid⟩
    av:=λb hb=>hb.imp id km }
  have hrow:Same (·≠k) M0 M0 ⟨m,A.h,w⟩ ⟨m,A.h,w⟩:=⟨rfl,λ_ _ _=>⟨rfl,rfl⟩,λ_ h=>h⟩
  have live:∀{id ver:Nat} {X:Nat->Option Nat->Prop},id≠k->b8 ⟨m,A.h,w⟩ id ver X->b8 ⟨m.set k none,(A.h.set k (.row sz [])).set i (.row s ys),w⟩ id ver X:=by
   intro id ver X hid h;have e2:(m.set k none).getD id none=m.getD id none:=jq hid;by_cases hii:id=i
   .subst hii;have hil:id<(A.h.set k (.row sz [])).length:=by simp;exact(aA.1 hx).1
    rcases h with h|⟨sz',xs',h,h1,h2⟩
    .have h':A.h[id]?=some .dead:=h;rw[hx]at h';cases h'
    .have h':A.h[id]?=some (.row sz' xs'):=h;rw[hx]at h';cases h';refine .inr ⟨s,ys,fp hil,by omega,λhe=>?_⟩;show X s ((m.set k none).getD id none);rw[e2];exact h2 (by omega)
   .unfold b8 at *
    have e1:((A.h.set k (.row sz [])).set i (.row s ys))[id]?=A.h[id]?:=by
     rw[cq (Ne.symm hii),cq (Ne.symm hid)]
    show (((A.h.set k (.row sz [])).set i (.row s ys))[id]?=some .dead\/∃sz' xs',((A.h.set k (.row sz [])).set i (.row s ys))[id]?=some (.row sz' xs')/\ver<=xs'.length/\(xs'.length=ver->X sz' ((m.set k none).getD id none)));rw[e1,e2];exact h
  have rep0:∀{v:Value} {a:AV},bp M0 ⟨m,A.h,w⟩ v a->qY (·≠k) a->bp M0 ⟨m.set k none,(A.h.set k (.row sz [])).set i (.row s ys),w⟩ v a:=by
   intro v a h hb
   cases a with
   |p q=>exact RepP.less (show RepP (Avoid M0 m) w v q from h) λb hb=>hb.imp id km
   |ptr id ver i' o=>exact⟨h.1,live hb h.2⟩
   |iptr it id=>exact⟨h.1,live hb h.2⟩
   |arr id ver i o n=>exact⟨h.1,live hb h.2⟩
   |slice id ver off len=>exact⟨h.1,live (X:=sliceAt w v ver off len) hb h.2⟩
   |ref q id=>
    refine⟨h.1,?_⟩;have hii:id≠i\/A.h[id]?=some (.row s xs):=by
     by_cases e:id=i
     .subst e;exact .inr hx
     .exact .inl e
    rcases hii with hii|hii
    .have e1:((A.h.set k (.row sz [])).set i (.row s ys))[id]?=A.h[id]?:=by
      rw[cq (Ne.symm hii),cq (Ne.symm hb)]
     have e2:(m.set k none).getD id none=m.getD id none:=jq hb;show (((A.h.set k (.row sz [])).set i (.row s ys))[id]?=some .dead\/(∃o,((A.h.set k (.row sz [])).set i (.row s ys))[id]?=some o/\o.tag=some q)/\∃b,(m.set k none).getD id none=some b/\v=rZ q b);rw[e1,e2];exact h.2
    .rcases h.2 with h2|⟨⟨o,h2,h3⟩,_⟩
     .have h2':A.h[id]?=some .dead:=h2;rw[hii]at h2';cases h2'
     .have h2':A.h[id]?=some o:=h2
      rw[hii]at h2';cases h2';cases h3
   |undef=>exact trivial
   |agg cs=>exact h.elim
   |func fn f c=>exact h.elim
   |tuple vs=>exact h.elim
  have repS:∀{v:Value} {a:AV},aY M0 ⟨m,A.h,w⟩ v a->sA (·≠k) a->aY M0 ⟨m.set k none,(A.h.set k (.row sz [])).set i (.row s ys),w⟩ v a:=by
   intro v a h hb
   cases a with
   |func fn f c=>
    obtain⟨F,C,rfl,h1,h2⟩:=h
    exact⟨F,C,rfl,h1.imp λv c hc hr=>rep0 hr (hb.1 c hc),h2.imp λv c hc hr=>rep0 hr (hb.2 c hc)⟩
   |p q=>exact rep0 (a:=.p q) h hb
   |ptr id ver i o=>exact rep0 (a:=.ptr id ver i o) h hb
   |iptr it id=>exact rep0 (a:=.iptr it id) h hb
   |arr id ver i o n=>exact rep0 (a:=.arr id ver i o n) h hb
   |slice id ver off len=>exact rep0 (a:=.slice id ver off len) h hb
   |ref q id=>exact rep0 (a:=.ref q id) h hb
   |undef=>exact trivial
   |agg cs=>exact h.elim
   |tuple vs=>exact h.elim
  have repA:∀{v:Value} {a:AV},cc M0 ⟨m,A.h,w⟩ v a->ux (·≠k) a->cc M0 ⟨m.set k none,(A.h.set k (.row sz [])).set i (.row s ys),w⟩ v a:=by
   intro v a h hb
   cases a with
   |agg cs=>
    obtain⟨C,rfl,h1,h2⟩:=h
    exact⟨C,rfl,h1,h2.imp λv c hc hr=>repS hr (hb c hc)⟩
   |p q=>exact repS (a:=.p q) h hb
   |ptr id ver i o=>exact repS (a:=.ptr id ver i o) h hb
   |iptr it id=>exact repS (a:=.iptr it id) h hb
   |arr id ver i o n=>exact repS (a:=.arr id ver i o n) h hb
   |slice id ver off len=>exact repS (a:=.slice id ver off len) h hb
   |ref q id=>exact repS (a:=.ref q id) h hb
   |func fn f c=>exact repS (a:=.func fn f c) h hb
   |undef=>exact trivial
   |tuple vs=>exact h.elim
  have rep:∀{v:Value} {a:AV},Rep M0 ⟨m,A.h,w⟩ v a->vE (·≠k) a->Rep M0 ⟨m.set k none,(A.h.set k (.row sz [])).set i (.row s ys),w⟩ v a:=by
   intro v a h hb
   cases a with
   |tuple cs=>
    obtain⟨C,rfl,h2⟩:=h
    exact⟨C,rfl,h2.imp λv c hc hr=>repA hr (hb c hc)⟩
   |p q=>exact repA (a:=.p q) h hb
   |ptr id ver i o=>exact repA (a:=.ptr id ver i o) h hb
   |iptr it id=>exact repA (a:=.iptr it id) h hb
   |arr id ver i o n=>exact repA (a:=.arr id ver i o n) h hb
   |slice id ver off len=>exact repA (a:=.slice id ver off len) h hb
   |ref q id=>exact repA (a:=.ref q id) h hb
   |func fn f c=>exact repA (a:=.func fn f c) h hb
   |undef=>exact trivial
   |agg cs=>exact repA (a:=.agg cs) h hb
  have hrow':∀{b T s':Nat} {C:Array Value} {x y:AV} {n:Nat},True:=λ{_ _ _ _ _ _ _}=>trivial;have hil:i<A.h.length:=(aA.1 hx).1;refine⟨hr.size,λt=>?_,?_,?_,?_,?_,?_⟩
  .show Rep M0 _ _ (T t);rcases ht t with⟨e,hb⟩|e
   .rw[e];exact rep (hr.tmps t) hb
   .rw[e];exact trivial
  .exact
   {len:=by simp;exact hml
    lt:=λb hb=>hr.hok.lt b (km hb)
    m0:=λb hb=>⟨(hr.hok.m0 b hb).1,λhn=>(hr.hok.m0 b hb).2 (km hn)⟩
    inj:=λi' j' b hi' hj'=>by
     have key:∀n:Nat,(m.set k none)[n]?=some (some b)->m[n]?=some (some b):=by
      intro n hn;rw[zt]at hn;split at hn
      .split at hn<;>cases hn
      .exact hn
     exact hr.hok.inj i' j' b (key i' hi') (key j' hj')
    obj:=λid o hid=>by
     have hid0:((A.h.set k (.row sz [])).set i (.row s ys))[id]?=some o:=hid;show ObjOk P M0 _ ((m.set k none).getD id none) o;by_cases hk':id=k
     .subst hk';rw[cq hik,fp (by simpa using hkl)]at hid0;cases hid0;rw[pZ];exact .inl ⟨rfl,rfl⟩
     .rw[jq hk'];by_cases hi':id=i
      .subst hi';rw[fp (by simpa using hil)]at hid0;cases hid0;have:=hr.hok.obj id _ hx;rcases this with⟨h1,h2⟩|⟨bl,T',C,h1,h2,h3,h4⟩
       .refine .inl ⟨h1,?_⟩;subst h2;exact DB hlen
       .refine .inr ⟨bl,T',C,h1,h2,by rw[hlen];exact h3,λn y hy=>?_⟩;have hnl:n<xs.length:=by have:=(aA.1 hy).1;omega
        obtain⟨x,hxn⟩:∃x,xs[n]?=some x:=⟨_,aT hnl⟩
        obtain⟨cs,ds,e1,e2,e3,e4⟩:=hcell n x y hxn hy;obtain⟨cs',h5,h6,h7⟩:=h4 n x hxn;rw[e1]at h5;cases h5;refine⟨ds,e2,by omega,λj d hd'=>?_⟩;have hjl:j<cs.length:=by have:=(aA.1 hd').1;omega
        obtain⟨c,hc⟩:∃c,cs[j]?=some c:=⟨_,aT hjl⟩
        obtain⟨h8,h9⟩:=h7 j c hc;rcases e4 j c d hc hd' with rfl|⟨rfl,rfl⟩
        .exact⟨h8,repS h9 (sy e1 (ho id _ hk' hx x (aV hxn)) (aV hc) h8)⟩
        .refine⟨rfl,?_⟩;have h10:RepP (Avoid M0 m) w (C.getD (n*s+j) undef) .nilslice:=h9;generalize C.getD (n*s+j) undef=v at h10 |-;cases h10;refine⟨⟨none,0,0,rfl⟩,.inr ⟨sz,[],?_,aJ _,λ_=>.inr (.inr ⟨?_,rfl,rfl⟩)⟩⟩
         .show ((A.h.set k (.row sz [])).set id (.row s ys))[k]?=_;rw[cq hik,fp hkl]
         .exact pZ
      .rw[cq (Ne.symm hi'),cq (Ne.symm hk')]at hid0;have:=hr.hok.obj id o hid0;have hb:=ho id o hk' hid0;have this:ObjOk P M0 ⟨m,A.h,w⟩ (m.getD id none) o:=this;generalize m.getD id none=μ at this |-
       cases o with
       |row sz xs=>
        rcases this with h|⟨b,T,C,h1,h2,h3,h4⟩
        .exact .inl h
        .refine .inr ⟨b,T,C,h1,h2,h3,λi x hx=>?_⟩;obtain⟨cs,h5,h6,h7⟩:=h4 i x hx
         exact⟨cs,h5,h6,λj c hc=>⟨(h7 j c hc).1,repS (h7 j c hc).2 (sy h5 (hb x (aV hx)) (aV hc) (h7 j c hc).1)⟩⟩
       |loop n tmps ps assign body st pend=>
        obtain⟨b,r,h1,h2,h3,h4,h5⟩:=this
        exact⟨b,r,h1,h2,h3,λt=>rep (h4 t) (hb t),h5⟩
       |strIter s p=>exact this
       |mp es=>
        obtain⟨b,C,clk,h1,h2,h3⟩:=this
        exact⟨b,C,clk,h1,h2,h3.monoP λv q hq=>repS hq trivial⟩
       |memo f=>
        obtain⟨hg,es,hf,b,C,clk,h1,h2,h3⟩:=this
        exact⟨hg,es,hf,b,C,clk,h1,h2,h3.monoP λv q hq=>repS hq trivial⟩
       |dblock=>exact this
       |bld T el x=>
        obtain⟨b,p,v,h1,h2,h3,h4,h5,h6⟩:=this
        exact⟨b,p,v,h1,h2,h3,h4,rep0 h5 hb,h6⟩
       |dead=>exact trivial
    gl:=hr.hok.gl.fr (λ_ _ _=>rfl) λb hb=>.inl (km hb) }
  .exact
   {fr:=hr.ev.fr
    sub:=λx hx=>hr.ev.sub x (km hx)
    obj:=λid o hid ho'=>by
     obtain⟨o',h1,h2⟩:=hr.ev.obj id o hid ho';have hid':id<A.bs:=hid;refine⟨o',?_,?_⟩
     .show ((A.h.set k (.row sz [])).set i (.row s ys))[id]?=_;rw[cq (by omega),cq (by omega)];exact h1
     .show ObjEv _ _ ((m.set k none).getD id none) _;rw[jq (by omega)]
      exact h2 }
  .exact⟨by simp;exact hr.le.1,hr.le.2⟩
  .have:=hr.df;rw[hd]at this;show DefsRep P M0 _ a.defers A.df;rw[hd]
   cases hds:a.defers with
   |nil=>exact trivial
   |cons d ds=>rw[hds]at this;exact this.elim
  .have:=hr.rc;show RcRep M0 _ b cs0 A.rc;cases hc:A.rc<;>rw[hc]at this<;>first|exact this|skip
   obtain⟨h1,h2,v',cs1,h3,h4⟩:=this
   exact⟨h1,h2,v',cs1,h3,RepP.less h4 λb hb=>hb.imp id km⟩⟩
variable {H:Hints} {Q:Cont}
theorem KS{σ}{V:σ->Prop}{I}{μ}{s}{A B}(hw:fy P A B)(k:@WQ ⟨dZ (gQ P V I μ s) Q⟩ .normal B):@WQ ⟨dZ (gQ P V I μ s) Q⟩ .normal A:=by
 obtain⟨s',h1,h2,h3⟩:=k;exact⟨s',h1,h2,hw.trans h3⟩
theorem Hr{A}(sz):fy P A { A with h:=A.h++[.row sz []] }:=zE sz λ_=>.inl rfl
end Abs
end Go.Proofs.YtmndpldajflenaaGreatDoor
