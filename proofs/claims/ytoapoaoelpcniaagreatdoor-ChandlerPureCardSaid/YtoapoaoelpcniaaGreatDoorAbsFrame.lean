/- LAWS: a call that is known from a part of the caller's memory is known from all of it; a r -/
import Derived.Test.YtoapoaoelpcniaaGreatDoorClChkX
set_option linter.all false
namespace Go.Proofs.YtoapoaoelpcniaaGreatDoor
namespace Abs
variable {P:Program} {M0 M1:Nat->Prop}
def qV (p:Nat->Prop):AV->Prop
 |.ptr id _ _ _=>p id
 |.slice id _ _ _=>p id
 |.ref _ id=>p id
 |_=>True
def sB (p:Nat->Prop):AV->Prop
 |.func _ first cap=>(∀c,c∈first->qV p c)/\∀c,c∈cap->qV p c
 |a=>qV p a
def tZ (p:Nat->Prop):AV->Prop
 |.agg cs=>∀c,c∈cs->sB p c
 |a=>sB p a
def sC (p:Nat->Prop):AV->Prop
 |.tuple cs=>∀c,c∈cs->tZ p c
 |a=>tZ p a
def qu (p:Nat->Prop):AObj->Prop
 |.row _ xs=>∀x,x∈xs->sC p x
 |.loop _ tmps _ _ _ _ _=>∀t,sC p (tmps t)
 |.bld _ _ x=>qV p x
 |_=>True
theorem kL{n}{a}(h:ei n a):qV (·<n) a:=by
 cases a<;>first|exact h|exact trivial
theorem Bp{n}{a}(h:fk n a):sB (·<n) a:=by
 cases a<;>first|exact h|exact trivial|exact⟨λc hc=>kL (h.1 c hc),λc hc=>kL (h.2 c hc)⟩
theorem LF{n}{a}(h:gy n a):tZ (·<n) a:=by
 cases a<;>first|exact h|exact trivial|exact λc hc=>Bp (h c hc)|exact⟨λc hc=>kL (h.1 c hc),λc hc=>kL (h.2 c hc)⟩
theorem xy{n}{a}(h:below n a):sC (·<n) a:=by
 cases a<;>first|exact h|exact trivial|exact λc hc=>LF (h c hc)|exact λc hc=>Bp (h c hc)|exact⟨λc hc=>kL (h.1 c hc),λc hc=>kL (h.2 c hc)⟩
theorem Gm{n}{o}(h:bm n o):qu (·<n) o:=by
 cases o<;>first|exact trivial|exact λx hx=>xy (h x hx)|exact λt=>xy (h t)|exact kL h
structure Same (p:Nat->Prop) (M0 M1:Nat->Prop) (S S':Mem):Prop where
 w:S'.w=S.w
 h:∀id,p id->id<S.h.length->S'.h[id]?=S.h[id]?/\S'.m.getD id none=S.m.getD id none
 av:∀b,Avoid M1 S'.m b->Avoid M0 S.m b
theorem dU.same{p}{S S'}(e:Same p M0 M1 S S'){id ver}{X}(h:dU S id ver X)(hid:p id):dU S' id ver X:=by
 obtain⟨e1,e2⟩:=e.h id hid (vM h);unfold dU at *
 rw[e1,e2];exact h
theorem cS.same{p}{S S'}(e:Same p M0 M1 S S'){v}{a}(h:cS M0 S v a)(hb:qV p a):cS M1 S' v a:=by
 cases a with
 |p q=>
  show RepP (Avoid M1 S'.m) S'.w v q;rw[e.w]
  exact RepP.less (show RepP (Avoid M0 S.m) S.w v q from h) e.av
 |ptr id ver i o=>exact⟨h.1,h.2.same e hb⟩
 |slice id ver off len=>
  refine⟨h.1,?_⟩;rw[e.w]
  exact dU.same e h.2 hb
 |ref k id=>
  refine⟨h.1,?_⟩;have hl:id<S.h.length:=by
   rcases h.2 with h2|⟨⟨_,h2,_⟩,_⟩<;>exact(aF.1 h2).1
  obtain⟨e1,e2⟩:=e.h id hb hl;rw[e1,e2]
  exact h.2
 |undef=>exact trivial
 |agg cs=>exact h.elim
 |func fn f c=>exact h.elim
 |tuple vs=>exact h.elim
theorem bO.same{p}{S S'}(e:Same p M0 M1 S S'){v}{a}(h:bO M0 S v a)(hb:sB p a):bO M1 S' v a:=by
 cases a with
 |func fn f c=>
  obtain⟨F,C,rfl,h1,h2⟩:=h
  exact⟨F,C,rfl,h1.imp λv c hc hr=>hr.same e (hb.1 c hc),h2.imp λv c hc hr=>hr.same e (hb.2 c hc)⟩
 |p q=>exact cS.same (M0:=M0) (a:=.p q) e h hb
 |ptr id ver i o=>exact cS.same (M0:=M0) (a:=.ptr id ver i o) e h hb
 |slice id ver off len=>exact cS.same (M0:=M0) (a:=.slice id ver off len) e h hb
 |ref k id=>exact cS.same (M0:=M0) (a:=.ref k id) e h hb
 |undef=>exact trivial
 |agg cs=>exact h.elim
 |tuple vs=>exact h.elim
theorem d4.same{p}{S S'}(e:Same p M0 M1 S S'){v}{a}(h:d4 M0 S v a)(hb:tZ p a):d4 M1 S' v a:=by
 cases a with
 |agg cs=>
  obtain⟨C,rfl,h1,h2⟩:=h
  exact⟨C,rfl,h1,h2.imp λv c hc hr=>hr.same e (hb c hc)⟩
 |p q=>exact bO.same (M0:=M0) (a:=.p q) e h hb
 |ptr id ver i o=>exact bO.same (M0:=M0) (a:=.ptr id ver i o) e h hb
 |slice id ver off len=>exact bO.same (M0:=M0) (a:=.slice id ver off len) e h hb
 |ref k id=>exact bO.same (M0:=M0) (a:=.ref k id) e h hb
 |func fn f c=>exact bO.same (M0:=M0) (a:=.func fn f c) e h hb
 |undef=>exact trivial
 |tuple vs=>exact h.elim
theorem Rep.same{p}{S S'}(e:Same p M0 M1 S S'){v}{a}(h:Rep M0 S v a)(hb:sC p a):Rep M1 S' v a:=by
 cases a with
 |tuple cs=>
  obtain⟨C,rfl,h2⟩:=h
  exact⟨C,rfl,h2.imp λv c hc hr=>hr.same e (hb c hc)⟩
 |p q=>exact d4.same (M0:=M0) (a:=.p q) e h hb
 |ptr id ver i o=>exact d4.same (M0:=M0) (a:=.ptr id ver i o) e h hb
 |slice id ver off len=>exact d4.same (M0:=M0) (a:=.slice id ver off len) e h hb
 |ref k id=>exact d4.same (M0:=M0) (a:=.ref k id) e h hb
 |func fn f c=>exact d4.same (M0:=M0) (a:=.func fn f c) e h hb
 |undef=>exact trivial
 |agg cs=>exact d4.same (M0:=M0) (a:=.agg cs) e h hb
theorem xz{p}{x c}{cs}(hx:x.cells=some cs)(hb:sC p x)(hc:c∈cs)(hcell:c.isCell=true):sB p c:=by
 rcases xK hx with⟨l',rfl⟩|⟨l',rfl⟩|⟨h1,rfl⟩
 .simp only[AV.cells,PV.cells,jO]at hx;subst hx;simp only[cH]at hc;obtain⟨q,_,rfl⟩:=hc;exact trivial
 .simp only[AV.cells,jO]at hx;subst hx;exact hb c hc
 .simp only[gh]at hc;subst hc;cases c<;>first|exact hb|exact trivial|cases h1
theorem ObjOk.same{p}{S S'}(e:Same p M0 M1 S S'){μ}{o}(h:ObjOk P M0 S μ o)(hb:qu p o):ObjOk P M1 S' μ o:=by
 cases o with
 |row sz xs=>
  rcases h with h|⟨b,T,C,h1,h2,h3,h4⟩
  .exact .inl h
  .refine .inr ⟨b,T,C,h1,by rw[e.w];exact h2,h3,λi x hx=>?_⟩;obtain⟨cs,h5,h6,h7⟩:=h4 i x hx
   exact⟨cs,h5,h6,λj c hc=>⟨(h7 j c hc).1,bO.same e (h7 j c hc).2 (xz h5 (hb x (aG hx)) (aG hc) (h7 j c hc).1)⟩⟩
 |loop n tmps ps assign body st pend=>
  obtain⟨b,r,h1,h2,h3,h4,h5⟩:=h
  exact⟨b,r,h1,by rw[e.w];exact h2,h3,λt=>Rep.same e (h4 t) (hb t),h5⟩
 |strIter s q=>obtain⟨b,h1,h2⟩:=h;exact⟨b,h1,by rw[e.w];exact h2⟩
 |mp es=>
  obtain⟨b,C,clk,h1,h2,h3⟩:=h
  exact⟨b,C,clk,h1,by rw[e.w];exact h2,h3.monoP λv q hq=>bO.same e hq trivial⟩
 |memo f=>
  obtain⟨hg,es,hf,b,C,clk,h1,h2,h3⟩:=h
  exact⟨hg,es,hf,b,C,clk,h1,by rw[e.w];exact h2,h3.monoP λv q hq=>bO.same e hq trivial⟩
 |dblock=>obtain⟨b,h1,h2⟩:=h;exact⟨b,h1,by rw[e.w];exact h2⟩
 |bld T el x=>
  obtain⟨b,q,v,h1,h2,h3,h4,h5,h6⟩:=h
  exact⟨b,q,v,h1,by rw[e.w];exact h2,h3,h4,cS.same e h5 hb,by rw[e.w];exact h6⟩
 |dead=>exact trivial
theorem ObjOk.keepF{S S'}(e:Ev S.h.length S S'){μ}{o}(hw:∀b,μ=some b->S'.w.heap[b]?=S.w.heap[b]?)(h:ObjOk P M0 S μ o):ObjOk P M0 S' μ o:=by
 cases o with
 |row sz xs=>
  rcases h with h|⟨b,T,C,h1,h2,h3,h4⟩
  .exact .inl h
  .refine .inr ⟨b,T,C,h1,by rw[hw b h1];exact h2,h3,λi x hx=>?_⟩;obtain⟨cs,h5,h6,h7⟩:=h4 i x hx
   exact⟨cs,h5,h6,λj c hc=>⟨(h7 j c hc).1,e.keepS (h7 j c hc).2⟩⟩
 |loop n tmps ps assign body st pend=>
  obtain⟨b,r,h1,h2,h3,h4,h5⟩:=h
  exact⟨b,r,h1,by rw[hw b h1];exact h2,h3,λt=>e.keep (h4 t),h5⟩
 |strIter s q=>obtain⟨b,h1,h2⟩:=h;exact⟨b,h1,by rw[hw b h1];exact h2⟩
 |mp es=>
  obtain⟨b,C,clk,h1,h2,h3⟩:=h
  exact⟨b,C,clk,h1,by rw[hw b h1];exact h2,h3.mono λv a hr=>e.keepS hr⟩
 |memo f=>
  obtain⟨hg,es,hf,b,C,clk,h1,h2,h3⟩:=h
  exact⟨hg,es,hf,b,C,clk,h1,by rw[hw b h1];exact h2,h3.mono λv a hr=>e.keepS hr⟩
 |dblock=>obtain⟨b,h1,h2⟩:=h;exact⟨b,h1,by rw[hw b h1];exact h2⟩
 |bld T el x=>
  obtain⟨b,q,v,h1,h2,h3,h4,h5,h6⟩:=h;refine⟨b,q,v,h1,by rw[hw b h1];exact h2,h3,h4,e.rep0 h5 (gJ h5),λa n c hv=>?_⟩;obtain⟨N,hN⟩:=h6 a n c hv
  exact⟨N,(e.fr.shape _ (sc hN)).trans hN⟩
 |dead=>exact trivial
theorem f8{m1 m2:List (Option Nat)}{id}(h:id<m1.length):(m1++m2).getD id none=m1.getD id none:=by
 rw[cd,cd,aX h]
theorem iE{f}{args}{h}{R:AEnd->Heap->Prop}(hcl:∀o,o∈h->bm h.length o)(hargs:∀a,a∈args->below h.length a)
  (k:aD P f args h (λr h'=>h'.length=h.length/\R r h')) (t):aD P f args (h++t) (λr h''=>∃h',h''=h'++t/\h'.length=h.length/\R r h'):=by
 intro M0 m w cargs hS ha;have hlen:m.length=(h++t).length:=hS.len;rw[aB]at hlen;obtain⟨m1,m2,rfl,hm1⟩:∃m1 m2,m=m1++m2/\m1.length=h.length:=⟨m.take h.length,m.drop h.length,(lr _ _).symm,by simp;omega⟩
 have hm2:m2.length=t.length:=by rw[aB]at hlen;omega
 have hsub:∀b,Own m1 b->Own (m1++m2) b:=λb hb=>dr.2 (.inl hb);have hsub2:∀b,Own m2 b->Own (m1++m2) b:=λb hb=>dr.2 (.inr hb);have hdis:∀b,Own m1 b->Own m2 b->False:=λb h1 h2=>by
  obtain⟨i,hi⟩:=dX h1;obtain⟨j,hj⟩:=dX h2;have hi':i<m1.length:=(aF.1 hi).1;have:=hS.inj i (m1.length+j) b (by show (m1++m2)[i]?=_;rw[aX hi'];exact hi) (by show (m1++m2)[m1.length+j]?=_;rw[bW (by omega)];simpa using hj);omega
 let M1:Nat->Prop:=λb=>M0 b\/Own m2 b
 have hfor:Same (·<h.length) M0 M1 ⟨m1++m2,h++t,w⟩ ⟨m1,h,w⟩:=
  {w:=rfl
   h:=λid hid _=>⟨(aX hid).symm,(f8 (by have h1:id<h.length:=hid;show id<m1.length;omega)).symm⟩
   av:=λb hb=>by
    rcases hb with(hb|hb)|hb
    .exact .inl hb
    .exact .inr (hsub2 b hb)
    .exact .inr (hsub b hb) }
 have hk1:HOk P M1 ⟨m1,h,w⟩:=
  {len:=hm1
   lt:=λb hb=>hS.lt b (hsub b hb)
   m0:=λb hb=>by
    rcases hb with hb|hb
    .exact⟨(hS.m0 b hb).1,λhn=>(hS.m0 b hb).2 (hsub b hn)⟩
    .exact⟨hS.lt b (hsub2 b hb),λhn=>hdis b hn hb⟩
   inj:=λi j b hi hj=>by
    have hi':i<m1.length:=(aF.1 hi).1;have hj':j<m1.length:=(aF.1 hj).1;exact hS.inj i j b (by simpa[aX hi']using hi) (by simpa[aX hj']using hj)
   obj:=λid o hid=>by
    have hid':id<h.length:=(aF.1 hid).1;have:=hS.obj id o (by show (h++t)[id]?=_;rw[aX hid'];exact hid);rw[show (Mem.m ⟨m1++m2,h++t,w⟩).getD id none=m1.getD id none from f8 (by omega)]at this;exact this.same hfor (Gm (hcl o (aG hid)))
   gl:=⟨hS.gl.1,λb hg ho=>hS.gl.2 b hg (hsub b ho)⟩ }
 have:=k M1 m1 w cargs hk1 ⟨ha.1,λi c hi=>(ha.2 i c hi).same hfor (xy (hargs c (aG hi)))⟩;refine⟨this.1,this.2.mono λe w' hh=>?_⟩;obtain⟨r,h',m',⟨hl',hR⟩,hev,hk,hend⟩:=hh;have hml:m'.length=h'.length:=hk.len;have hm1':∀b,Own m' b->Own m2 b->False:=λb h1 h2=>(hk.m0 b (.inr h2)).2 h1
 have hback:Same (λ_=>True) M1 M0 ⟨m',h',w'⟩ ⟨m'++m2,h'++t,w'⟩:=
  {w:=rfl
   h:=λid _ hid=>⟨aX hid,f8 (by show id<m'.length;rw[hml];exact hid)⟩
   av:=λb hb=>by
    rcases hb with hb|hb
    .exact .inl (.inl hb)
    .rcases dr.1 hb with hb|hb
     .exact .inr hb
     .exact .inl (.inr hb) }
 have hidsT:∀a:AV,sC (λ_=>True) a:=by
  have h0:∀a:AV,qV (λ_=>True) a:=λa=>by cases a<;>exact trivial
  have h1:∀a:AV,sB (λ_=>True) a:=λa=>by cases a<;>first|exact trivial|exact⟨λc _=>h0 c,λc _=>h0 c⟩
  have h2:∀a:AV,tZ (λ_=>True) a:=λa=>by cases a<;>first|exact trivial|exact λc _=>h1 c|exact⟨λc _=>h0 c,λc _=>h0 c⟩
  exact λa=>by cases a<;>first|exact trivial|exact λc _=>h2 c|exact λc _=>h1 c|exact⟨λc _=>h0 c,λc _=>h0 c⟩
 have hobT:∀o:AObj,qu (λ_=>True) o:=λo=>by
  cases o<;>first|exact trivial|exact λx _=>hidsT x|exact λt=>hidsT _|skip
  rename_i x;cases x<;>exact trivial
 have hbig:Ev (h++t).length ⟨m1++m2,h++t,w⟩ ⟨m'++m2,h'++t,w'⟩:=
  {fr:=⟨hev.fr.os,hev.fr.tape,hev.fr.output,hev.fr.size,λb hb hn=>hev.fr.block b hb λho=>hn (hsub b ho),hev.fr.shape⟩
   sub:=λb hb=>by
    rcases dr.1 hb with hb|hb
    .rcases hev.sub b hb with h1|h1
     .exact .inl (hsub b h1)
     .exact .inr h1
    .exact .inl (hsub2 b hb)
   obj:=λid o hid ho=>by
    rcases dF id h.length with hlt|hge
    .have ho1:h[id]?=some o:=by
      have:(h++t)[id]?=some o:=ho;rwa [aX hlt]at this
     obtain⟨o',h1,h2⟩:=hev.obj id o hlt ho1;refine⟨o',?_,?_⟩
     .show (h'++t)[id]?=_;rw[aX (by omega)];exact h1
     .show ObjEv ((m1++m2).getD id none) _ ((m'++m2).getD id none) _;rw[f8 (by omega),f8 (by omega)];exact h2
    .refine⟨o,?_,?_⟩
     .have:(h++t)[id]?=some o:=ho;show (h'++t)[id]?=_;rw[bW hge]at this;rw[bW (by omega),hl'];exact this
     .have e1:(m1++m2).getD id none=m2.getD (id-h.length) none:=by
       rw[cd,cd,bW (by omega),hm1]
      have e2:(m'++m2).getD id none=m2.getD (id-h.length) none:=by
       rw[cd,cd,bW (by omega),hml,hl']
      show ObjEv ((m1++m2).getD id none) _ ((m'++m2).getD id none) _;rw[e1,e2]
      exact ObjEv.refl _ _ }
 have hbig':Ev (Mem.h ⟨m1++m2,h++t,w⟩).length ⟨m1++m2,h++t,w⟩ ⟨m'++m2,h'++t,w'⟩:=hbig
 have hkb:HOk P M0 ⟨m'++m2,h'++t,w'⟩:=
  {len:=by simp;omega
   lt:=λb hb=>by
    rcases dr.1 hb with hb|hb
    .exact hk.lt b hb
    .exact jM (hS.lt b (hsub2 b hb)) hev.fr.size
   m0:=λb hb=>⟨(hk.m0 b (.inl hb)).1,λhn=>by
    rcases dr.1 hn with hn|hn
    .exact(hk.m0 b (.inl hb)).2 hn
    .exact(hS.m0 b hb).2 (hsub2 b hn)⟩
   inj:=λi j b hi hj=>by
    have hi0:(m'++m2)[i]?=some (some b):=hi;have hj0:(m'++m2)[j]?=some (some b):=hj;rcases dF i m'.length with h1|h1<;>rcases dF j m'.length with h2|h2
    .rw[aX h1]at hi0;rw[aX h2]at hj0;exact hk.inj i j b hi0 hj0
    .rw[aX h1]at hi0;rw[bW h2]at hj0;exact(hm1' b (aG hi0) (aG hj0)).elim
    .rw[bW h1]at hi0;rw[aX h2]at hj0;exact(hm1' b (aG hj0) (aG hi0)).elim
    .rw[bW h1]at hi0;rw[bW h2]at hj0;have:=hS.inj (m1.length+(i-m'.length)) (m1.length+(j-m'.length)) b (by show (m1++m2)[m1.length+(i-m'.length)]?=_;rw[bW (by omega)];simpa using hi0) (by show (m1++m2)[m1.length+(j-m'.length)]?=_;rw[bW (by omega)];simpa using hj0);omega
   obj:=λid o hid=>by
    have hid0:(h'++t)[id]?=some o:=hid;rcases dF id h'.length with h1|h1
    .rw[aX h1]at hid0;have:=hk.obj id o hid0;show ObjOk P M0 _ ((m'++m2).getD id none) o;rw[f8 (by omega)];exact ObjOk.same hback this (hobT o)
    .rw[bW h1]at hid0;have e1:(m1++m2).getD id none=m2.getD (id-h.length) none:=by
      rw[cd,cd,bW (by omega),hm1]
     have e2:(m'++m2).getD id none=m2.getD (id-h.length) none:=by
      rw[cd,cd,bW (by omega),hml,hl']
     have:=hS.obj id o (by show (h++t)[id]?=_;rw[bW (by omega),<-hl'];exact hid0);rw[show (Mem.m ⟨m1++m2,h++t,w⟩).getD id none=(m1++m2).getD id none from rfl,e1]at this;show ObjOk P M0 _ ((m'++m2).getD id none) o;rw[e2];refine this.keepF hbig' λb hb=>?_;have hb2:Own m2 b:=by
      rw[cd]at hb
      cases hx:m2[id-h.length]? with
      |none=>rw[hx]at hb;cases hb
      |some y=>rw[hx]at hb;cases hb;exact aG hx
     exact hev.fr.block b (hS.lt b (hsub2 b hb2)) λho=>hdis b ho hb2
   gl:=⟨hk.gl.1,λb hg ho=>by
    rcases dr.1 ho with ho|ho
    .exact hk.gl.2 b hg ho
    .exact hS.gl.2 b hg (hsub2 b ho)⟩ }
 refine⟨r,h'++t,m'++m2,⟨h',rfl,hl',hR⟩,hbig,hkb,?_⟩
 cases e with
 |returned v'=>
  cases r with
  |panic v=>exact hend.elim
  |ret a=>exact Rep.same hback (show Rep M1 ⟨m',h',w'⟩ v' a from hend) (hidsT a)
 |panicked ch=>
  cases r with
  |ret a=>exact hend.elim
  |panic v=>
   obtain⟨v',h1,h2⟩:=hend
   exact⟨v',h1,RepP.less (show RepP (Avoid M1 m') w' v' v from h2) hback.av⟩
 |outgrown=>exact hend.elim
theorem nE{m}{k b}(h:Own (m.set k none) b):Own m b:=by
 rcases O' h with h|h
 .exact h
 .cases h
theorem lX{m:List (Option Nat)}{k id}(h:id≠k):(m.set k none).getD id none=m.getD id none:=by
 rw[cd,cd,eo (Ne.symm h)]
theorem uv{m:List (Option Nat)}{k}:(m.set k none).getD k none=none:=by
 rw[cd,EY];simp only[if_true];split<;>rfl
def A4 (k:Nat) (x y:AV):Prop:=∃cs ds,x.cells=some cs/\y.cells=some ds/\ds.length=cs.length/\∀(j:Nat) (c d:AV),cs[j]?=some c->ds[j]?=some d->d=c\/(c=.p .nilslice/\d=.slice k 0 0 0)
theorem u0{A}{T}(k i sz s)(xs ys)(hk:A.bs<=k)(hi:A.bs<=i)(hkl:k<A.h.length)(hik:i≠k)(hx:A.h[i]?=some (.row s xs))(hlen:ys.length=xs.length)
  (hcell:∀(n:Nat) (x y),xs[n]?=some x->ys[n]?=some y->A4 k x y) (ht:∀t,(T t=A.tmps t/\sC (·≠k) (A.tmps t))\/T t=.undef)
  (ho:∀(id) (o),id≠k->A.h[id]?=some o->qu (·≠k) o) (hd:A.df=[]):f7 P A { A with tmps:=T,h:=(A.h.set k (.row sz [])).set i (.row s ys) }:=
 ⟨rfl,rfl,λM0 S0 b cs0 m a w hr=>by
  refine⟨m.set k none,?_⟩;have hml:m.length=A.h.length:=hr.hok.len
  have hsame:Same (·≠k) M0 M0 ⟨m,A.h.set i (.row s ys),w⟩ ⟨m.set k none,(A.h.set k (.row sz [])).set i (.row s ys),w⟩:=
   {w:=rfl
    h:=λid hid _=>⟨by
      show ((A.h.set k (.row sz [])).set i (.row s ys))[id]?=(A.h.set i (.row s ys))[id]?
      rw[List.set_comm _ _ (Ne.symm hik),eo (Ne.symm hid)],lX hid⟩
    av:=λb hb=>hb.imp id nE }
  have hrow:Same (·≠k) M0 M0 ⟨m,A.h,w⟩ ⟨m,A.h,w⟩:=⟨rfl,λ_ _ _=>⟨rfl,rfl⟩,λ_ h=>h⟩
  have live:∀{id ver:Nat} {X:Nat->Option Nat->Prop},id≠k->dU ⟨m,A.h,w⟩ id ver X->dU ⟨m.set k none,(A.h.set k (.row sz [])).set i (.row s ys),w⟩ id ver X:=by
   intro id ver X hid h;have e2:(m.set k none).getD id none=m.getD id none:=lX hid;by_cases hii:id=i
   .subst hii;have hil:id<(A.h.set k (.row sz [])).length:=by simp;exact(aF.1 hx).1
    rcases h with h|⟨sz',xs',h,h1,h2⟩
    .have h':A.h[id]?=some .dead:=h;rw[hx]at h';cases h'
    .have h':A.h[id]?=some (.row sz' xs'):=h;rw[hx]at h';cases h';refine .inr ⟨s,ys,jf hil,by omega,λhe=>?_⟩;show X s ((m.set k none).getD id none);rw[e2];exact h2 (by omega)
   .unfold dU at *
    have e1:((A.h.set k (.row sz [])).set i (.row s ys))[id]?=A.h[id]?:=by
     rw[eo (Ne.symm hii),eo (Ne.symm hid)]
    show (((A.h.set k (.row sz [])).set i (.row s ys))[id]?=some .dead\/∃sz' xs',((A.h.set k (.row sz [])).set i (.row s ys))[id]?=some (.row sz' xs')/\ver<=xs'.length/\(xs'.length=ver->X sz' ((m.set k none).getD id none)));rw[e1,e2];exact h
  have rep0:∀{v:Value} {a:AV},cS M0 ⟨m,A.h,w⟩ v a->qV (·≠k) a->cS M0 ⟨m.set k none,(A.h.set k (.row sz [])).set i (.row s ys),w⟩ v a:=by
   intro v a h hb
   cases a with
   |p q=>exact RepP.less (show RepP (Avoid M0 m) w v q from h) λb hb=>hb.imp id nE
   |ptr id ver i' o=>exact⟨h.1,live hb h.2⟩
   |slice id ver off len=>exact⟨h.1,live (X:=sliceAt w v ver off len) hb h.2⟩
   |ref q id=>
    refine⟨h.1,?_⟩;have hii:id≠i\/A.h[id]?=some (.row s xs):=by
     by_cases e:id=i
     .subst e;exact .inr hx
     .exact .inl e
    rcases hii with hii|hii
    .have e1:((A.h.set k (.row sz [])).set i (.row s ys))[id]?=A.h[id]?:=by
      rw[eo (Ne.symm hii),eo (Ne.symm hb)]
     have e2:(m.set k none).getD id none=m.getD id none:=lX hb;show (((A.h.set k (.row sz [])).set i (.row s ys))[id]?=some .dead\/(∃o,((A.h.set k (.row sz [])).set i (.row s ys))[id]?=some o/\o.tag=some q)/\∃b,(m.set k none).getD id none=some b/\v=xa q b);rw[e1,e2];exact h.2
    .rcases h.2 with h2|⟨⟨o,h2,h3⟩,_⟩
     .have h2':A.h[id]?=some .dead:=h2;rw[hii]at h2';cases h2'
     .have h2':A.h[id]?=some o:=h2
      rw[hii]at h2';cases h2';cases h3
   |undef=>exact trivial
   |agg cs=>exact h.elim
   |func fn f c=>exact h.elim
   |tuple vs=>exact h.elim
  have repS:∀{v:Value} {a:AV},bO M0 ⟨m,A.h,w⟩ v a->sB (·≠k) a->bO M0 ⟨m.set k none,(A.h.set k (.row sz [])).set i (.row s ys),w⟩ v a:=by
   intro v a h hb
   cases a with
   |func fn f c=>
    obtain⟨F,C,rfl,h1,h2⟩:=h
    exact⟨F,C,rfl,h1.imp λv c hc hr=>rep0 hr (hb.1 c hc),h2.imp λv c hc hr=>rep0 hr (hb.2 c hc)⟩
   |p q=>exact rep0 (a:=.p q) h hb
   |ptr id ver i o=>exact rep0 (a:=.ptr id ver i o) h hb
   |slice id ver off len=>exact rep0 (a:=.slice id ver off len) h hb
   |ref q id=>exact rep0 (a:=.ref q id) h hb
   |undef=>exact trivial
   |agg cs=>exact h.elim
   |tuple vs=>exact h.elim
  have repA:∀{v:Value} {a:AV},d4 M0 ⟨m,A.h,w⟩ v a->tZ (·≠k) a->d4 M0 ⟨m.set k none,(A.h.set k (.row sz [])).set i (.row s ys),w⟩ v a:=by
   intro v a h hb
   cases a with
   |agg cs=>
    obtain⟨C,rfl,h1,h2⟩:=h
    exact⟨C,rfl,h1,h2.imp λv c hc hr=>repS hr (hb c hc)⟩
   |p q=>exact repS (a:=.p q) h hb
   |ptr id ver i o=>exact repS (a:=.ptr id ver i o) h hb
   |slice id ver off len=>exact repS (a:=.slice id ver off len) h hb
   |ref q id=>exact repS (a:=.ref q id) h hb
   |func fn f c=>exact repS (a:=.func fn f c) h hb
   |undef=>exact trivial
   |tuple vs=>exact h.elim
  have rep:∀{v:Value} {a:AV},Rep M0 ⟨m,A.h,w⟩ v a->sC (·≠k) a->Rep M0 ⟨m.set k none,(A.h.set k (.row sz [])).set i (.row s ys),w⟩ v a:=by
   intro v a h hb
   cases a with
   |tuple cs=>
    obtain⟨C,rfl,h2⟩:=h
    exact⟨C,rfl,h2.imp λv c hc hr=>repA hr (hb c hc)⟩
   |p q=>exact repA (a:=.p q) h hb
   |ptr id ver i o=>exact repA (a:=.ptr id ver i o) h hb
   |slice id ver off len=>exact repA (a:=.slice id ver off len) h hb
   |ref q id=>exact repA (a:=.ref q id) h hb
   |func fn f c=>exact repA (a:=.func fn f c) h hb
   |undef=>exact trivial
   |agg cs=>exact repA (a:=.agg cs) h hb
  have hrow':∀{b T s':Nat} {C:Array Value} {x y:AV} {n:Nat},True:=λ{_ _ _ _ _ _ _}=>trivial;have hil:i<A.h.length:=(aF.1 hx).1;refine⟨hr.size,λt=>?_,?_,?_,?_,?_,?_⟩
  .show Rep M0 _ _ (T t);rcases ht t with⟨e,hb⟩|e
   .rw[e];exact rep (hr.tmps t) hb
   .rw[e];exact trivial
  .exact
   {len:=by simp;exact hml
    lt:=λb hb=>hr.hok.lt b (nE hb)
    m0:=λb hb=>⟨(hr.hok.m0 b hb).1,λhn=>(hr.hok.m0 b hb).2 (nE hn)⟩
    inj:=λi' j' b hi' hj'=>by
     have key:∀n:Nat,(m.set k none)[n]?=some (some b)->m[n]?=some (some b):=by
      intro n hn;rw[EY]at hn;split at hn
      .split at hn<;>cases hn
      .exact hn
     exact hr.hok.inj i' j' b (key i' hi') (key j' hj')
    obj:=λid o hid=>by
     have hid0:((A.h.set k (.row sz [])).set i (.row s ys))[id]?=some o:=hid;show ObjOk P M0 _ ((m.set k none).getD id none) o;by_cases hk':id=k
     .subst hk';rw[eo hik,jf (by simpa using hkl)]at hid0;cases hid0;rw[uv];exact .inl ⟨rfl,rfl⟩
     .rw[lX hk'];by_cases hi':id=i
      .subst hi';rw[jf (by simpa using hil)]at hid0;cases hid0;have:=hr.hok.obj id _ hx;rcases this with⟨h1,h2⟩|⟨bl,T',C,h1,h2,h3,h4⟩
       .refine .inl ⟨h1,?_⟩;subst h2;exact tK hlen
       .refine .inr ⟨bl,T',C,h1,h2,by rw[hlen];exact h3,λn y hy=>?_⟩;have hnl:n<xs.length:=by have:=(aF.1 hy).1;omega
        obtain⟨x,hxn⟩:∃x,xs[n]?=some x:=⟨_,dc hnl⟩
        obtain⟨cs,ds,e1,e2,e3,e4⟩:=hcell n x y hxn hy;obtain⟨cs',h5,h6,h7⟩:=h4 n x hxn;rw[e1]at h5;cases h5;refine⟨ds,e2,by omega,λj d hd'=>?_⟩;have hjl:j<cs.length:=by have:=(aF.1 hd').1;omega
        obtain⟨c,hc⟩:∃c,cs[j]?=some c:=⟨_,dc hjl⟩
        obtain⟨h8,h9⟩:=h7 j c hc;rcases e4 j c d hc hd' with rfl|⟨rfl,rfl⟩
        .exact⟨h8,repS h9 (xz e1 (ho id _ hk' hx x (aG hxn)) (aG hc) h8)⟩
        .refine⟨rfl,?_⟩;have h10:RepP (Avoid M0 m) w (C.getD (n*s+j) undef) .nilslice:=h9;generalize C.getD (n*s+j) undef=v at h10 |-;cases h10;refine⟨⟨none,0,0,rfl⟩,.inr ⟨sz,[],?_,bB _,λ_=>.inr (.inr ⟨?_,rfl,rfl⟩)⟩⟩
         .show ((A.h.set k (.row sz [])).set id (.row s ys))[k]?=_;rw[eo hik,jf hkl]
         .exact uv
      .rw[eo (Ne.symm hi'),eo (Ne.symm hk')]at hid0;have:=hr.hok.obj id o hid0;have hb:=ho id o hk' hid0;have this:ObjOk P M0 ⟨m,A.h,w⟩ (m.getD id none) o:=this;generalize m.getD id none=μ at this |-
       cases o with
       |row sz xs=>
        rcases this with h|⟨b,T,C,h1,h2,h3,h4⟩
        .exact .inl h
        .refine .inr ⟨b,T,C,h1,h2,h3,λi x hx=>?_⟩;obtain⟨cs,h5,h6,h7⟩:=h4 i x hx
         exact⟨cs,h5,h6,λj c hc=>⟨(h7 j c hc).1,repS (h7 j c hc).2 (xz h5 (hb x (aG hx)) (aG hc) (h7 j c hc).1)⟩⟩
       |loop n tmps ps assign body st pend=>
        obtain⟨b,r,h1,h2,h3,h4,h5⟩:=this
        exact⟨b,r,h1,h2,h3,λt=>rep (h4 t) (hb t),h5⟩
       |strIter s p=>exact this
       |mp es=>
        obtain⟨b,C,clk,h1,h2,h3⟩:=this
        exact⟨b,C,clk,h1,h2,h3.monoP λv q hq=>repS hq trivial⟩
       |memo f=>
        obtain⟨hg,es,hf,b,C,clk,h1,h2,h3⟩:=this
        exact⟨hg,es,hf,b,C,clk,h1,h2,h3.monoP λv q hq=>repS hq trivial⟩
       |dblock=>exact this
       |bld T el x=>
        obtain⟨b,p,v,h1,h2,h3,h4,h5,h6⟩:=this
        exact⟨b,p,v,h1,h2,h3,h4,rep0 h5 hb,h6⟩
       |dead=>exact trivial
    gl:=hr.hok.gl.fr (λ_ _ _=>rfl) λb hb=>.inl (nE hb) }
  .exact
   {fr:=hr.ev.fr
    sub:=λx hx=>hr.ev.sub x (nE hx)
    obj:=λid o hid ho'=>by
     obtain⟨o',h1,h2⟩:=hr.ev.obj id o hid ho';have hid':id<A.bs:=hid;refine⟨o',?_,?_⟩
     .show ((A.h.set k (.row sz [])).set i (.row s ys))[id]?=_;rw[eo (by omega),eo (by omega)];exact h1
     .show ObjEv _ _ ((m.set k none).getD id none) _;rw[lX (by omega)]
      exact h2 }
  .exact⟨by simp;exact hr.le.1,hr.le.2⟩
  .have:=hr.df;rw[hd]at this;show DefsRep P M0 _ a.defers A.df;rw[hd]
   cases hds:a.defers with
   |nil=>exact trivial
   |cons d ds=>rw[hds]at this;exact this.elim
  .have:=hr.rc;show RcRep M0 _ b cs0 A.rc;cases hc:A.rc<;>rw[hc]at this<;>first|exact this|skip
   obtain⟨h1,h2,v',cs1,h3,h4⟩:=this
   exact⟨h1,h2,v',cs1,h3,RepP.less h4 λb hb=>hb.imp id nE⟩⟩
variable {H:Hints} {Q:Cont}
theorem Um{σ}{V:σ->Prop}{I}{μ}{s}{A B}(hw:f7 P A B)(k:@WQ ⟨ep (gu P V I μ s) Q⟩ .normal B):@WQ ⟨ep (gu P V I μ s) Q⟩ .normal A:=by
 obtain⟨s',h1,h2,h3⟩:=k;exact⟨s',h1,h2,hw.trans h3⟩
theorem FE{A}(sz):f7 P A { A with h:=A.h++[.row sz []] }:=FF sz λ_=>.inl rfl
end Abs
end Go.Proofs.YtoapoaoelpcniaaGreatDoor
