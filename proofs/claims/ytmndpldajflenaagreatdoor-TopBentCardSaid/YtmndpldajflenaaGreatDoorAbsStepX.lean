/- CONTRACTS of the program's functions, and laws on what they return. No conditions but those in the theorems' heads. -/
import Derived.Test.YtmndpldajflenaaGreatDoorAbsWp
import Derived.RangeFuncIn
set_option linter.all false
namespace Go.Proofs.YtmndpldajflenaaGreatDoor
namespace Abs
variable {P:Program} {M0:Nat->Prop} {S0:Mem} {b:Frame} {cs0:List Frame} {m:List (Option Nat)} {A:AAct} {a:Act} {w:World}
theorem me(M0)(S):Rep M0 S undef (.p (.tuple [])):=ar (.tuple rfl (by simp))
theorem Rel.eval(h:Rel P M0 S0 b cs0 m A a w)(x):Rep M0 ⟨m,A.h,w⟩ (a.eval x) (A.eval x):=by
 cases x with
 |tmp t=>exact h.tmps t
 |const v=>
  show Rep M0 _ v (match kJ v with|some x=>.p x|none=>.undef)
  cases hc:kJ v with
  |none=>exact trivial
  |some q=>exact ar (eb hc)
 |global g=>exact trivial
 |func f=>exact ar (.func rfl rfl (by simp) (by simp))
theorem Ev.len{base}{S S'}(e:Ev base S S')(hb:base<=S.h.length):base<=S'.h.length:=by
 rcases ow base with h|h
 .omega
 .have hlt:base-1<S.h.length:=by omega
  obtain⟨o',ho',_⟩:=e.obj (base-1) _ (by omega) (aT hlt);have:=(aA.1 ho').1;omega
theorem Ev.rc{S S'}(e:Ev S.h.length S S'){c}(h:RcRep M0 S b cs0 c):RcRep M0 S' b cs0 c:=by
 cases c with
 |pend v=>
  obtain⟨h1,h2,v',cs1,h3,h4⟩:=h
  exact⟨h1,h2,v',cs1,h3,e.repP h4⟩
 |_=>exact h
theorem Ev.repL{S S'}(e:Ev S.h.length S S'){C}{l}(h:cK (Rep M0 S) C l):cK (Rep M0 S') C l:=h.imp λ_ _ _ hr=>e.keep hr
theorem Ev.mode{S S'}(e:Ev S.h.length S S'){um}{u}(h:gF M0 S um u):gF M0 S' um u:=by
 cases u with
 |pan v=>
  obtain⟨v',h1,h2⟩:=h
  exact⟨v',h1,e.repP h2⟩
 |_=>exact h
theorem Ev.defRep{S S'}(e:Ev S.h.length S S'){d}{x}(h:BT P M0 S d x):BT P M0 S' d x:=by
 cases x with
 |fn g args=>
  obtain⟨fv,cap,dargs,cargs,h1,h2,h3⟩:=h
  exact⟨fv,cap,dargs,cargs,h1,h2,e.repL h3⟩
 |collected id=>
  obtain⟨bl,h1,h2⟩:=h;refine⟨bl,h1,?_⟩;rcases h2 with h2|⟨h2,h3⟩
  .obtain⟨o',ho',he⟩:=e.obj id _ (aA.1 h2).1 h2;rcases he with rfl|⟨_,_,_,he,_⟩|⟨he,_⟩
   .exact .inl ho'
   .cases he
   .exact absurd rfl he
  .obtain⟨o',ho',he⟩:=e.obj id _ (aA.1 h2).1 h2;rcases he with rfl|⟨_,_,_,he,_⟩|⟨_,he,he'⟩
   .exact .inl ho'
   .cases he
   .refine .inr ⟨?_,he'.trans h3⟩;cases o'<;>first|exact ho'|cases he
theorem Ev.defsRep{S S'}(e:Ev S.h.length S S'):∀{ds} {xs},DefsRep P M0 S ds xs->DefsRep P M0 S' ds xs
 |[],[],_=>trivial
 |_::_,_::_,h=>⟨e.defRep h.1,e.defsRep h.2⟩
 |[],_::_,h=>h.elim
 |_::_,[],h=>h.elim
theorem Rel.ahead(h:Rel P M0 S0 b cs0 m A a w){m':List (Option Nat)}{h':Heap}{w':World}(e:Ev A.h.length ⟨m,A.h,w⟩ ⟨m',h',w'⟩)(hk:HOk P M0 ⟨m',h',w'⟩) :
  Rel P M0 S0 b cs0 m' { A with h:=h' } a w' where
 size:=h.size
 tmps:=λt=>e.keep (h.tmps t)
 hok:=hk
 ev:=h.ev.trans (e.mono h.le.1)
 le:=⟨iZ h.le.1 (e.len (aJ _)),h.le.2⟩
 df:=e.defsRep h.df
 rc:=e.rc h.rc
theorem Rel.put(h:Rel P M0 S0 b cs0 m A a w){dst}{v}{v'}(hd:∀d,dst=some d->d<A.n)(hv:Rep M0 ⟨m,A.h,w⟩ v' v) :
  Rel P M0 S0 b cs0 m (A.put dst v A.h) (a.put dst v') w:=by
 cases dst with
 |none=>exact h
 |some d=>
  have hlt:=hd d rfl
  exact
   {size:=by simpa[AAct.put,Act.put]using h.size
    tmps:=λt=>by
     show Rep M0 ⟨m,A.h,w⟩ ((a.tmps.setIfInBounds d v').getD t undef) (if t=d then v else A.tmps t);by_cases htd:t=d
     .subst htd;have:t<a.tmps.size:=by rw[h.size];exact hlt
      simpa[this]using hv
     .simp only[htd,if_false];have:=h.tmps t;simpa[NU (Ne.symm htd)]using this
    hok:=h.hok
    ev:=h.ev
    le:=h.le
    df:=h.df
    rc:=h.rc }
theorem nJ(A:AAct)(dst)(v)(h):A.put dst v h={ A with h:=h }.put dst v h:=by cases dst<;>rfl
theorem lX(A:AAct)(dst)(v)(h):(A.put dst v h).n=A.n:=by cases dst<;>rfl
theorem jV(A:AAct)(dst)(v)(h):(A.put dst v h).rc=A.rc:=by cases dst<;>rfl
theorem fF(A:AAct)(dst)(v)(h):(A.put dst v h).h=h:=by cases dst<;>rfl
theorem j3{n}{o}(h:lj n o=true):∀d,o.dst=some d->d<n:=by
 intro d hd;simp only[lj,hd]at h;exact of_decide_eq_true h
def Hm (P:Program) (M0:Nat->Prop) (S0:Mem) (b:Frame) (cs0:List Frame) (n:Nat) (mc:Machine) (k:List Item) (K:AAct->Prop) (Q:Ex->AAct->Prop):Prop:=
 (∃A' m' a' w',K A'/\A'.n=n/\Rel P M0 S0 b cs0 m' A' a' w'/\Steps P mc (lone (b.atR a' k) (bn A'.rc cs0) w')) \/
 (∃v A' m' a' w' v' todo,Q (.panic v) A'/\A'.n=n/\Rel P M0 S0 b cs0 m' A' a' w'/\RepP (Avoid M0 m') w' v' v /\
  Steps P mc (lone { b.atR a' todo with mode:=.panicking [{ v:=v',recovered:=false }] } (bn A'.rc cs0) w'))
theorem r6{cs}{v}{cs1}(h:recoverD cs=some (v,cs1)):recoverD cs1=none:=by
 unfold recoverD at h;split at h
 .split at h
  .cases h;rfl
  .cases h
 .cases h
theorem Rel.semAt(h:Rel P M0 S0 b cs0 m A a w){o}(hn:(∀c,o.op≠.defer c)\/A.rc≠.rnd):o.semAt b.roundOf a.eval=execOp a.eval o:=by
 rcases hn with hn|hn
 .exact Oper.semAt_eq _ _ _ hn
 .have:b.roundOf=none:=by
   have:=h.rc;cases hr:A.rc<;>rw[hr]at this hn
   .exact this
   .exact absurd rfl hn
   .exact this.1
   .exact this.1
   .exact this.1
  rw[this];rfl
theorem JK(h:Rel P M0 S0 b cs0 m A a w):A.rc=.no\/A.rc=.rnd\/(b.roundOf=none/\b.kind=.deferred):=by
 have:=h.rc;cases hr:A.rc<;>rw[hr]at this
 .exact .inl rfl
 .exact .inr (.inl rfl)
 .exact .inr (.inr ⟨this.1,this.2.1⟩)
 .exact .inr (.inr ⟨this.1,this.2.1⟩)
 .exact .inr (.inr ⟨this.1,this.2.1⟩)
theorem C3{H}{o}{i}{rest}{ops}{k}{K}{Q}
  (ho:ops[i]?=some o) (hd:lj A.n o=true) (hw:Region.wanted o (yielded ops a.tmps)=true) (hr:Rel P M0 S0 b cs0 m A a w)
  (h:ja P A o.dst K Q (aW P (au H) o A.eval A.h)) :
  Hm P M0 S0 b cs0 A.n (lone (b.atR a (.inRegion ops (i::rest)::k)) (bn A.rc cs0) w) (.inRegion ops rest::k) K Q:=by
 have hok:=MZ (P:=P) (mu:=au H) (o:=o) hr.hok hr.eval;have hfin:∀(a':Act) v,(b.atR a' (.inRegion ops (i::rest)::k)).finish v=b.atR (a'.put o.dst v) (.inRegion ops rest::k):=by
  intro a' v;rw[Frame.finish_atR,ho];rfl
 have hg:=stepGR_op (P:=P) (b:=b) (k:=k) (cs:=bn A.rc cs0) (w:=w) (rest:=rest) ho hw;have hdef:∀c,o.op=.defer c->(∃d,aW P (au H) o A.eval A.h=.dfr d)\/aW P (au H) o A.eval A.h=.stuck:=by
  intro c hc;unfold aW;rw[hc];dsimp only;split
  .unfold sX;split
   .exact .inl ⟨_,rfl⟩
   .exact .inr rfl
  .exact .inr rfl
 generalize haop:aW P (au H) o A.eval A.h=r at h hok hdef;have hnd:(∀d,r≠.dfr d)->r≠.stuck->o.semAt b.roundOf a.eval=execOp a.eval o:=by
  intro h1 h2;refine hr.semAt (.inl λc hc=>?_);rcases hdef c hc with⟨d,hd⟩|hs
  .exact h1 d hd
  .exact h2 hs
 cases r with
 |val v h'=>
  obtain⟨⟨m',h1,w'⟩,v',rfl,hrun,hev,hhk,hrep⟩:=hok;rw[hnd (by simp) (by simp)]at hg;have hr':=(hr.ahead hev hhk).put (dst:=o.dst) (j3 hd) hrep;rw[<-nJ]at hr';refine .inl ⟨_,m',_,w',h,lX _ _ _ _,hr',?_⟩;rw[jV,<-hfin]
  exact .one (step_lone_go (by rw[hg];simp only at hrun;simp[stepG.apply,hrun]))
 |skip h'=>
  obtain⟨⟨m',h1,w'⟩,rfl,hrun,hev,hhk⟩:=hok;rw[hnd (by simp) (by simp)]at hg;have hr':=(hr.ahead hev hhk).put (dst:=o.dst) (j3 hd) (me _ _);rw[<-nJ]at hr';refine .inl ⟨_,m',_,w',h,lX _ _ _ _,hr',?_⟩;rw[jV,<-hfin]
  exact .one (step_lone_go (by rw[hg];simp[stepG.apply,hrun]))
 |call f args=>
  obtain⟨cargs,hrun,hargs⟩:=hok;rw[hnd (by simp) (by simp)]at hg;obtain⟨henter,hcall⟩:=h M0 m w cargs hr.hok hargs;have hrun':(execOp a.eval o).run P w=.ok (.enter f cargs) w:=hrun.trans (henter w);obtain⟨e,w',fr,⟨re,h',m',hR,hev,hhk,hend⟩,hcomes,_,hleave⟩:=hcall (b.atR a (.inRegion ops (i::rest)::k)::bn A.rc cs0)
  have hstart:step P (lone (b.atR a (.inRegion ops (i::rest)::k)) (bn A.rc cs0) w) =
    .next (lone (Frame.enter P f cargs .normal) (b.atR a (.inRegion ops (i::rest)::k)::bn A.rc cs0) w):=
   step_lone_go (by rw[hg];simp[stepG.apply,hrun',Frame.atR])
  cases e with
  |outgrown=>exact hend.elim
  |returned v'=>
   cases re with
   |panic v=>exact hend.elim
   |ret v=>
    have hr':=(hr.ahead hev hhk).put (dst:=o.dst) (j3 hd) hend;rw[<-nJ]at hr';refine .inl ⟨_,m',_,w',hR,lX _ _ _ _,hr',?_⟩;rw[jV,<-hfin]
    exact .head hstart (Steps.trans hcomes (.one (step_leave_returned hleave)))
  |panicked ch=>
   cases re with
   |ret v=>exact hend.elim
   |panic v=>
    obtain⟨v',rfl,hv⟩:=hend;refine .inr ⟨v,_,m',a,w',v',.inRegion ops (i::rest)::k,hR,rfl,hr.ahead hev hhk,hv,?_⟩;rw[<-Frame.raise_atR]
    exact .head hstart (Steps.trans hcomes (.one (step_leave_panicked hleave)))
 |yld l args=>
  obtain⟨bl,cargs,hrun,hargs,hlive⟩:=hok;rw[hnd (by simp) (by simp)]at hg;obtain⟨⟨ob,hob,htag⟩,hyld⟩:=h;have hbl:m.getD l none=some bl:=by
   rcases hlive with hdead|hbl
   .have hdead':A.h[l]?=some .dead:=hdead;rw[hob]at hdead';cases hdead';cases htag
   .exact hbl
  obtain⟨f,tmps,assign,body,hy,hround⟩:=hyld M0 m w cargs bl hr.hok hargs hbl;have hrun':(execOp a.eval o).run P w=.ok (.round bl f tmps assign body) w:=hrun.trans hy;obtain⟨e,w',⟨re,h',m',hR,hev,hhk,hend⟩,hsteps⟩:=hround (b.atR a (.inRegion ops (i::rest)::k)) (bn A.rc cs0)
  have hstart:step P (lone (b.atR a (.inRegion ops (i::rest)::k)) (bn A.rc cs0) w) =
    .next (lone (Frame.round bl f tmps assign body .normal) (b.atR a (.inRegion ops (i::rest)::k)::bn A.rc cs0) w):=
   step_lone_go (by rw[hg];simp[stepG.apply,hrun',Frame.atR])
  cases e with
  |outgrown=>exact hend.elim
  |returned v'=>
   cases re with
   |panic v=>exact hend.elim
   |ret v=>
    have hr':=(hr.ahead hev hhk).put (dst:=o.dst) (j3 hd) hend;rw[<-nJ]at hr';refine .inl ⟨_,m',_,w',hR,lX _ _ _ _,hr',?_⟩;rw[jV,<-hfin]
    exact .head hstart hsteps
  |panicked ch=>
   cases re with
   |ret v=>exact hend.elim
   |panic v=>
    obtain⟨v',rfl,hv⟩:=hend;refine .inr ⟨v,_,m',a,w',v',.inRegion ops (i::rest)::k,hR,rfl,hr.ahead hev hhk,hv,?_⟩;rw[<-Frame.raise_atR]
    exact .head hstart hsteps
 |dfr d=>
  have hnr:A.rc≠.rnd:=by intro hc;simp only[ja,hc,rf]at h
  have h':K ({ A with df:=d::A.df }.put o.dst (.p (.tuple [])) A.h):=by
   simp only[ja]at h;cases hc:A.rc<;>rw[hc]at h<;>first|exact h|exact absurd hc hnr
  rw[hr.semAt (.inr hnr)]at hg
  cases d with
  |collected id=>exact hok.elim
  |fn g args=>
   obtain⟨fv,cap,dargs,cargs,hrun,hinv,hargs⟩:=hok
   have hr1:Rel P M0 S0 b cs0 m { A with df:=.fn g args::A.df } { a with defers:={ target:=.fn fv cap,args:=dargs }::a.defers } w:=
    ⟨hr.size,hr.tmps,hr.hok,hr.ev,hr.le,⟨⟨fv,cap,dargs,cargs,rfl,hinv,hargs⟩,hr.df⟩,hr.rc⟩
   refine .inl ⟨_,m,_,w,h',lX _ _ _ _,hr1.put (dst:=o.dst) (j3 hd) (me _ _),?_⟩;rw[jV,<-hfin]
   exact .one (step_lone_go (by
    rw[hg];have hrun':(execOp a.eval o).run P w=_:=hrun
    simp[stepG.apply,hrun',Frame.atR]))
 |recover=>
  rw[hnd (by simp) (by simp)]at hg;have hrun:(execOp a.eval o).run P w=.ok .recover w:=hok;have hnil:Rep M0 ⟨m,A.h,w⟩ .nilIface (.p .niliface):=ar .niliface;have hkd:=JK hr;have hrc:=hr.rc
  have quiet:b.roundOf=none->b.kind=.deferred->recoverD (bn A.rc cs0)=none->K (A.put o.dst (.p .niliface) A.h) ->
    Hm P M0 S0 b cs0 A.n (lone (b.atR a (.inRegion ops (i::rest)::k)) (bn A.rc cs0) w) (.inRegion ops rest::k) K Q:=by
   intro h1 h2 h3 hK;refine .inl ⟨_,m,_,w,hK,lX _ _ _ _,hr.put (dst:=o.dst) (j3 hd) hnil,?_⟩;rw[jV,<-hfin];refine .one (step_lone_go ?_);have htr:=tryRecover_deferred (fr:=b.atR a (.inRegion ops (i::rest)::k)) h2 (bn A.rc cs0);rw[h3]at htr;have hro:(b.atR a (.inRegion ops (i::rest)::k)).roundOf=none:=h1;rw[hg];simp[stepG.apply,hrun,htr,hro]
  simp only[ja]at h
  cases hc:A.rc with
  |no=>rw[hc]at h;exact h.elim
  |rnd=>rw[hc]at h;exact h.elim
  |none=>
   rw[hc]at h hrc;rw[hc]at quiet
   exact quiet hrc.1 hrc.2.1 hrc.2.2 h
  |got v=>
   rw[hc]at h hrc;rw[hc]at quiet;obtain⟨h1,h2,v',cs1,h3⟩:=hrc;refine quiet h1 h2 ?_ h;simp only[bn,h3]
   exact r6 h3
  |pend v=>
   rw[hc]at h hrc;obtain⟨h1,h2,v',cs1,h3,h4⟩:=hrc;have hr1:Rel P M0 S0 b cs0 m { A with rc:=.got v } a w:=⟨hr.size,hr.tmps,hr.hok,hr.ev,hr.le,hr.df,⟨h1,h2,v',cs1,h3⟩⟩
   refine .inl ⟨_,m,_,w,h,lX _ _ _ _,hr1.put (dst:=o.dst) (j3 hd) (ar h4),?_⟩;rw[jV,<-hfin];refine .one (step_lone_go ?_);have htr:=tryRecover_deferred (fr:=b.atR a (.inRegion ops (i::rest)::k)) h2 cs0;rw[h3]at htr;have hro:(b.atR a (.inRegion ops (i::rest)::k)).roundOf=none:=h1;rw[hc]at hg;simp only[bn]at hg;rw[show bn (Rc.pend v) cs0=cs0 from rfl,hg]
   simp[stepG.apply,hrun,htr,hro,bn,h3]
 |panic v=>
  obtain⟨v',hrun,hv⟩:=hok;rw[hnd (by simp) (by simp)]at hg;refine .inr ⟨v,A,m,a,w,v',.inRegion ops (i::rest)::k,h,rfl,hr,hv,?_⟩;rw[<-Frame.raise_atR]
  exact .one (step_lone_go (by rw[hg];simp[stepG.apply,hrun]))
 |stuck=>exact h.elim
end Abs
end Go.Proofs.YtmndpldajflenaaGreatDoor
namespace Go.Proofs.YtmndpldajflenaaGreatDoor
namespace Abs
variable {P:Program} {M0:Nat->Prop} {S0:Mem} {b:Frame} {cs0:List Frame} {m:List (Option Nat)} {A:AAct} {a:Act} {w:World} {H:Hints}
def s6 (P:Program) (M:Nat->Prop) (mc:Machine) (b:Frame) (k:List Item) (cs:List Frame) (a:Act) (w:World):Ex->Prop
 |.normal=>Steps P mc (lone (b.atR a k) cs w)
 |.exit id=>(∀k',exitTo id k=some k'->Steps P mc (lone (b.atR a k') cs w)) /\
   (exitTo id k=none->∃k₁,exitTo id k₁=none/\Steps P mc (lone (b.atR a (.code (.exit id)::k₁)) cs w))
 |.ret=>∃k₁,Steps P mc (lone (b.atR a (.code .ret::k₁)) cs w)
 |.panic v=>∃v' todo,RepP M w v' v/\Steps P mc (lone { b.atR a todo with mode:=.panicking [{ v:=v',recovered:=false }] } cs w)
def oU (P:Program) (M0:Nat->Prop) (S0:Mem) (b:Frame) (cs0:List Frame) (n:Nat) (mc:Machine) (k:List Item) (Q:Ex->AAct->Prop):Prop:=
 ∃e A' m' a' w',Q e A'/\A'.n=n/\Rel P M0 S0 b cs0 m' A' a' w'/\s6 P (Avoid M0 m') mc b k (bn A'.rc cs0) a' w' e
theorem s6.of_steps{M}{mc mc'}{k}{cs}{e}(h:Steps P mc mc')(h':s6 P M mc' b k cs a w e):s6 P M mc b k cs a w e:=by
 cases e with
 |normal=>exact Steps.trans h h'
 |exit id=>exact⟨λk' hk=>h.trans (h'.1 k' hk),λhk=>let ⟨k₁,h1,h2⟩:=h'.2 hk;⟨k₁,h1,h.trans h2⟩⟩
 |ret=>exact let ⟨k₁,h1⟩:=h';⟨k₁,h.trans h1⟩
 |panic v=>exact let ⟨v',todo,h1,h2⟩:=h';⟨v',todo,h1,h.trans h2⟩
theorem oU.of_steps{n}{mc mc'}{k}{Q}(h:Steps P mc mc')(h':oU P M0 S0 b cs0 n mc' k Q):oU P M0 S0 b cs0 n mc k Q:=
 let ⟨e,A',m',a',w',h1,h2,h3,h4⟩:=h';⟨e,A',m',a',w',h1,h2,h3,h4.of_steps h⟩
theorem s6.pass{M}{mc}{x}{k}{cs}{e}(hx:x.plain=true)(he:e≠.normal)(h:s6 P M mc b (x::k) cs a w e):s6 P M mc b k cs a w e:=by
 have hxt:∀id,exitTo id (x::k)=exitTo id k:=by intro id;cases x<;>simp_all [exitTo,Item.plain]
 cases e with
 |normal=>exact absurd rfl he
 |exit id=>exact⟨λk' hk=>h.1 k' (by rw[hxt];exact hk),λhk=>h.2 (by rw[hxt];exact hk)⟩
 |ret=>exact h
 |panic v=>exact h
theorem rP{ops}{o}{i:Nat}(ho:ops[i]?=some o)(hw:Region.wanted o (yielded ops a.tmps)=false) :
  ((ops[i]?).map (Region.wanted · (yielded ops a.tmps))).getD false=false:=by simp[ho,hw]
theorem Rel.wanted(h:Rel P M0 S0 b cs0 m A a w){ops}{o}{t}(hw:aX ops A o=some t):Region.wanted o (yielded ops a.tmps)=t:=by
 unfold aX at hw;unfold Region.wanted
 cases hg:o.guard with
 |none=>rw[hg]at hw;cases hw;rfl
 |some g=>
  obtain⟨j,want⟩:=g;rw[hg]at hw;simp only at hw |-;unfold yielded;unfold m9 at hw
  cases hd:(ops[j]?).bind (·.dst) with
  |none=>rw[hd]at hw;cases hw;rfl
  |some d=>
   rw[hd]at hw;simp only at hw;have ht:=h.tmps d;simp only[ot];split at hw
   .rename_i bb hbb;rw[hbb]at ht;have:=lN ht;cases hw;rw[gG]at this
    cases hq:a.tmps[d]? with
    |none=>rw[hq]at this;cases this
    |some z=>
     rw[hq]at this;simp only[jz]at this;subst this;cases bb<;>cases want<;>rfl
   .rename_i l hbb;rw[hbb]at ht;have h1:RepP (Avoid M0 m) w (a.tmps.getD d undef) (.tuple l):=ht;cases hw;rw[gG]at h1
    cases hq:a.tmps[d]? with
    |none=>rfl
    |some z=>
     rw[hq]at h1;simp only[jz]at h1;cases h1;rfl
   .cases hw
theorem JV{ops}{Q}{n}{k}(hd:ops.toList.all (lj n)=true):∀(l) (i),ops.toList.drop i=l ->
  ∀{m A a w},Rel P M0 S0 b cs0 m A a w->A.n=n->fY P H ops Q l A ->
   oU P M0 S0 b cs0 n (lone (b.atR a (.inRegion ops ((List.range ops.size).drop i)::k)) (bn A.rc cs0) w) k Q:=by
 intro l
 induction l with
 |nil=>
  intro i hi m A a w hr hn h;have hlen:ops.size<=i:=by
   have:=congrArg List.length hi;simp at this;omega
  have:(List.range ops.size).drop i=[]:=by simp[hlen]
  rw[this]
  exact⟨.normal,A,m,a,w,h,hn,hr,.one stepR_region_end⟩
 |cons o rest ih=>
  intro i hi m A a w hr hn h;have hlt:i<ops.size:=by
   have:=congrArg List.length hi;simp at this;omega
  have hoi:ops[i]?=some o:=by
   have h1:ops.toList[i]?=some o:=by
    have:=nn (xs:=ops.toList) (i:=i) (j:=0);rw[hi]at this;simpa using this.symm
   simpa using h1
  have hdrop:(List.range ops.size).drop i=i::(List.range ops.size).drop (i+1):=by
   rw[rN (by simpa using hlt)];simp
  have hnext:ops.toList.drop (i+1)=rest:=by
   have:=congrArg List.tail hi;simpa[List.tail_drop]using this
  have hdo:lj A.n o=true:=by
   rw[hn];exact iw.1 hd o (by have:=aV (l:=ops.toList) (i:=i) (a:=o) (by simpa using hoi);exact this)
  rw[hdrop];unfold fY at h
  cases hw:aX ops A o with
  |none=>rw[hw]at h;exact h.elim
  |some t=>
   rw[hw]at h;have hwm:=hr.wanted hw
   cases t with
   |true=>
    have h1:=h.1 rfl;rcases C3 (i:=i) (rest:=(List.range ops.size).drop (i+1)) (k:=k) hoi hdo hwm hr h1 with⟨A',m',a',w',hK,hn',hr',hs⟩|⟨v,A',m',a',w',v',todo,hQ,hn',hr',hv,hs⟩
    .exact(ih (i+1) hnext hr' (hn'.trans hn) hK).of_steps hs
    .exact⟨.panic v,A',m',a',w',hQ,hn'.trans hn,hr',v',todo,hv,hs⟩
   |false=>
    have h1:=h.2 rfl;have hs:=stepR_op_skip (P:=P) (b:=b) (k:=k) (cs:=bn A.rc cs0) (w:=w) (rest:=(List.range ops.size).drop (i+1)) (rP hoi hwm);simp only[hoi,ot]at hs;have hr':=hr.put (dst:=o.dst) (j3 hdo) (me _ _);have:=ih (i+1) hnext hr' ((lX _ _ _ _).trans hn) h1;rw[jV]at this;exact this.of_steps (.one hs)
def eZ (P:Program):Prop:=
 ∀{M0:Nat->Prop} {S0:Mem} {b:Frame} {cs0:List Frame} {m:List (Option Nat)} {A:AAct} {a:Act} {w:World} {H:Hints} {ops:Array Oper} {Q:Ex->AAct->Prop} {n id:Nat} {k:List Item},
  ops.toList.all (lj n)=true->A8 H ops=true->Rel P M0 S0 b cs0 m A a w->A.n=n->bi P H ops Q (ur H ops.toList) (lk H ops.toList A) (mU H ops.toList A) ->
   oU P M0 S0 b cs0 n (lone (b.atR a (.code (.region id ops true)::k)) (bn A.rc cs0) w) k Q
theorem B6{S}(hS:HOk P M0 S)(id){w'}(hw:Fr S.m S.w w')(hb:∀x bl,x≠id->S.m.getD x none=some bl->w'.heap[bl]?=S.w.heap[bl]?) :
  HOk P M0 ⟨S.m,S.h.set id .dead,w'⟩/\Ev S.h.length S ⟨S.m,S.h.set id .dead,w'⟩:=by
 have hev:Ev S.h.length S ⟨S.m,S.h.set id .dead,w'⟩:=
  {fr:=hw
   sub:=λbl h=>.inl h
   obj:=λx o hx ho=>by
    by_cases hxi:x=id
    .subst hxi;exact⟨.dead,by simp[hx],.inl rfl⟩
    .exact⟨o,by simp[cq (Ne.symm hxi),ho],ObjEv.refl _ _⟩ }
 refine⟨?_,hev⟩
 exact
  {len:=by simpa using hS.len
   lt:=λbl h=>hP (hS.lt bl h) hw.size
   m0:=λbl h=>⟨hP (hS.m0 bl h).1 hw.size,(hS.m0 bl h).2⟩
   inj:=hS.inj
   obj:=λx o ho=>by
    by_cases hxi:x=id
    .subst hxi;have ho':(S.h.set x .dead)[x]?=some o:=ho;have hx:x<S.h.length:=by
      have:=(aA.1 ho').1;simpa using this
     rw[fp hx]at ho';cases ho';exact trivial
    .have ho':(S.h.set id .dead)[x]?=some o:=ho;rw[cq (Ne.symm hxi)]at ho';exact(hS.obj x o ho').keep hev λbl hbl=>hb x bl hxi hbl
   gl:=hev.glob hS.gl }
end Abs
end Go.Proofs.YtmndpldajflenaaGreatDoor
namespace Go.Proofs.YtmndpldajflenaaGreatDoor
namespace Abs
variable {P:Program} {M0:Nat->Prop}
theorem GM{S}{f}{vf}{args}{C}{g}{l}(hf:Rep M0 S vf f)(ha:cK (Rep M0 S) C args)(h:eX f args=.call g l) :
  ∃(fv:Fn) (cap dargs cargs:Array Value),(∀w,(Deferred.ofValue vf C).run P w=.ok { target:=.fn fv cap,args:=dargs } w) /\
   (∀w,(invoke (.fn fv cap) dargs).run P w=(callFunc g cargs).run P w)/\cK (Rep M0 S) cargs l:=by
 unfold eX at h;split at h
 .rename_i g' first cap
  cases h;have h1:RepP (Avoid M0 S.m) S.w vf (.func (.func g) first cap):=hf
  cases h1 with
  |@func _ F K _ _ hf hc h1 h2=>
   exact⟨.func g,K,F++C,F++C++K,λw=>by simp[Deferred.ofValue],λw=>by simp[invoke],cP (cP (kB hf h1) ha) (kB hc h2)⟩
 .rename_i g' first cap
  cases h;obtain⟨F,K,rfl,h1,h2⟩:=hf;exact⟨.func g,K,F++C,F++C++K,λw=>by simp[Deferred.ofValue],λw=>by simp[invoke],cP (cP (h1.imp λv c _ hr=>jj hr) ha) (h2.imp λv c _ hr=>jj hr)⟩
 .cases h
 .cases h
end Abs
end Go.Proofs.YtmndpldajflenaaGreatDoor
namespace Go.Proofs.YtmndpldajflenaaGreatDoor
namespace Abs
variable {P:Program} {M0:Nat->Prop} {S0:Mem} {b:Frame} {cs0:List Frame} {m:List (Option Nat)} {A:AAct} {a:Act} {w:World} {H:Hints}
theorem Rel.roundOf_none(hr:Rel P M0 S0 b cs0 m A a w)(hn:A.rc≠.rnd):b.roundOf=none:=by
 have:=hr.rc;cases hc:A.rc<;>rw[hc]at this hn
 .exact this
 .exact absurd rfl hn
 .exact this.1
 .exact this.1
 .exact this.1
theorem H2{Q}{n}{k}{pend}(hr:Rel P M0 S0 b cs0 m A a w)(hn:A.n=n)(h:qV Q A pend) :
  oU P M0 S0 b cs0 n (lone (b.atR a ((pend.map Item.code).toList++k)) (bn A.rc cs0) w) k Q:=by
 cases pend with
 |none=>exact⟨.normal,A,m,a,w,h,hn,hr,.refl P _⟩
 |some c=>
  cases c<;>first
   |exact h.elim
   |exact⟨.ret,A,m,a,w,h,hn,hr,k,.refl P _⟩
   |exact⟨.exit _,A,m,a,w,h,hn,hr,λ_ hk=>.one (stepR_exit hk),λhk=>⟨k,hk,.refl P _⟩⟩
theorem FG{Q}{n}{k}{g}{ps}{assign body}(hr:Rel P M0 S0 b cs0 m A a w)(hn:A.n=n)
  (h:rf (r8 P A (A.h++[.dblock,.loop A.n A.tmps ps assign body .ready none]) A.h.length Q (eX (A.eval g) [.ref .yl (A.h.length+1)])) A.rc) :
  oU P M0 S0 b cs0 n (lone (b.atR a (.code (.rangeFunc g ps assign body)::k)) (bn A.rc cs0) w) k Q:=by
 have hnr:A.rc≠.rnd:=by intro hc;simp only[hc,rf]at h
 have hk:r8 P A (A.h++[.dblock,.loop A.n A.tmps ps assign body .ready none]) A.h.length Q (eX (A.eval g) [.ref .yl (A.h.length+1)]):=by
  cases hc:A.rc<;>rw[hc]at h<;>first|exact h|exact absurd hc hnr
 have hro:=hr.roundOf_none hnr
 cases hinv:eX (A.eval g) [.ref .yl (A.h.length+1)] with
 |call gf args=>
  rw[hinv]at hk;have hmlen:m.length=A.h.length:=hr.hok.len;obtain⟨r,hrdef⟩:∃r:Loop,r={ state:=.ready,pending:=none,fn:=b.fn,tmps:=a.tmps,params:=ps,assign,body,defers:=w.heap.size }:=⟨_,rfl⟩
  obtain⟨S1,hS1⟩:∃S1:Mem,S1=((⟨m,A.h,w⟩:Mem).new .dblock (.deferred (some []))):=⟨_,rfl⟩
  have k1:HOk P M0 S1:=by
   rw[hS1];exact hr.hok.new ⟨_,rfl,bf _ _⟩
  have e1:Ev A.h.length ⟨m,A.h,w⟩ S1:=by rw[hS1];exact Ev.new _ M0 hr.hok (aJ _) _ _
  have l1:S1.h.length=A.h.length+1:=by rw[hS1];simp[Mem.new]
  have z1:S1.w.heap.size=w.heap.size+1:=by rw[hS1];simp[Mem.new]
  obtain⟨S2,hS2⟩:∃S2:Mem,S2=S1.new (.loop A.n A.tmps ps assign body .ready none) (.loop r):=⟨_,rfl⟩
  have e2':Ev S1.h.length S1 S2:=by rw[hS2];exact Ev.new _ M0 k1 (aJ _) _ _
  have e2:Ev A.h.length S1 S2:=e2'.mono (by omega);have e12:Ev A.h.length ⟨m,A.h,w⟩ S2:=e1.trans e2;have k2:HOk P M0 S2:=by
   rw[hS2];refine k1.new ⟨_,r,rfl,bf _ _,by rw[hrdef];exact hr.size,?_,by rw[hrdef],by rw[hrdef],by rw[hrdef],by rw[hrdef],by rw[hrdef],by rw[hrdef];exact hr.le.2⟩;intro t;rw[<-hS2,show r.tmps=a.tmps by rw[hrdef]];exact e12.keep (hr.tmps t)
  have hh:S2.h=A.h++[.dblock,.loop A.n A.tmps ps assign body .ready none]:=by rw[hS2,hS1];simp[Mem.new]
  have hm2:S2.m=m++[some w.heap.size,some (w.heap.size+1)]:=by rw[hS2];simp[Mem.new,hS1]
  have hw2:S2.w=(w.alloc (.deferred (some []))).alloc (.loop r):=by rw[hS2,hS1];rfl
  have hml:S2.m.getD A.h.length none=some w.heap.size:=by rw[hm2,<-hmlen];simp
  have hml1:S2.m.getD (A.h.length+1) none=some (w.heap.size+1):=by rw[hm2,<-hmlen];simp
  have hhl:S2.h[A.h.length]?=some .dblock:=by rw[hh];simp
  have hhl1:S2.h[A.h.length+1]?=some (.loop A.n A.tmps ps assign body .ready none):=by rw[hh];simp
  obtain⟨m2,h2,w2⟩:=S2;simp only at hh hm2 hw2 hml hml1 hhl hhl1;have hf2:Rep M0 ⟨m2,h2,w2⟩ (a.eval g) (A.eval g):=e12.keep (hr.eval g)
  have hy:Rep M0 ⟨m2,h2,w2⟩ (.func (.yield (w.heap.size+1)) #[] #[]) (.ref .yl (A.h.length+1)):=
   ⟨⟨w.heap.size+1,rfl⟩,.inr ⟨⟨_,hhl1,rfl⟩,w.heap.size+1,hml1,rfl⟩⟩
  have ha2:cK (Rep M0 ⟨m2,h2,w2⟩) #[.func (.yield (w.heap.size+1)) #[] #[]] [.ref .yl (A.h.length+1)]:=by
   refine⟨rfl,λi c hi=>?_⟩
   cases i with
   |zero=>cases hi;exact hy
   |succ i=>cases hi
  obtain⟨fv,cap,dargs,cargs,hof,hin,hargs⟩:=GM (P:=P) hf2 ha2 hinv;rw[<-hh]at hk;obtain⟨henter,hcall⟩:=hk M0 m2 w2 cargs k2 hargs;have hr2:Rel P M0 S0 b cs0 m2 { A with h:=h2,df:=.collected A.h.length::A.df } { a with defers:=[{ target:=.collected w.heap.size,args:=#[] }]++a.defers } w2:=by
   have:=hr.ahead e12 k2;exact⟨this.size,this.tmps,this.hok,this.ev,this.le,⟨⟨w.heap.size,rfl,.inr ⟨hhl,hml⟩⟩,this.df⟩,this.rc⟩
  have hstart:=stepR_rangeFunc (P:=P) (b:=b) (a:=a) (k:=k) (cs:=bn A.rc cs0) (w:=w) (g:=g) (ps:=ps) (assign:=assign) (body:=body) (l:=w.heap.size+1)
   (mark:=[{ target:=.collected w.heap.size,args:=#[] }]) (w₁:=w2) (w₁':=w2) (w₂:=w2) (d:={ target:=.fn fv cap,args:=dargs }) (f:=gf) (args:=cargs)
   (by rw[hro,run_enterLoop_outer,hw2,hrdef]) (by
    have:=hof w2
    simpa[resolve,Act.eval]using this) ((hin w2).trans (henter w2))
  obtain⟨e,w3,fr,⟨re,h3,m3,hR,hev,hhk,hend⟩,hcomes,_,hleave⟩:=hcall (b.atR { a with defers:=[{ target:=.collected w.heap.size,args:=#[] }]++a.defers } (.inRangeFunc (w.heap.size+1)::k)::bn A.rc cs0);have hr3:=hr2.ahead hev hhk
  cases e with
  |outgrown=>exact hend.elim
  |returned v'=>
   cases re with
   |panic v=>exact hend.elim
   |ret v=>
    have hR':kF Q { A with h:=h3,df:=.collected A.h.length::A.df } (A.h.length+1) h3[A.h.length+1]?:=hR;unfold kF at hR';split at hR'
    .rename_i n' tmps' ps' as' bd' st pend hob;obtain⟨hst,hj⟩:=hR';obtain⟨o',ho',hoe⟩:=hev.obj (A.h.length+1) _ (by rw[hh];simp) hhl1;have ho'':h3[A.h.length+1]?=some o':=ho';rw[hob]at ho'';cases ho'';have hm3:m3.getD (A.h.length+1) none=some (w.heap.size+1):=by
      rcases hoe with he|⟨_,_,_,he,_⟩|⟨_,_,he⟩
      .cases he
      .cases he
      .exact he.trans hml1
     obtain⟨bl,r3,hbl,hr3b,_,_,_,_,_,hst3,hp3,_⟩:=hhk.obj (A.h.length+1) _ hob;have hbl':m3.getD (A.h.length+1) none=some bl:=hbl;rw[hm3]at hbl';cases hbl';have hr3b':w3.heap[w.heap.size+1]?=some (.loop r3):=hr3b;have hendl:=run_endLoop (P:=P) hr3b' (by rw[hst3];exact hst);rw[<-hp3]at hj;have hput:=ig (S:=⟨m3,h3,w3⟩) hhk (o:=.dead) (ob:=.loop { r3 with state:=.exhausted }) hm3 hob hr3b (qP hr3b) (by intro C T f;simp) (.inl rfl) (λ_ _=>trivial);have hr4:=hr3.ahead hput.2 hput.1;have hsim:=H2 (k:=k) (n:=n) hr4 hn hj;refine hsim.of_steps (.head hstart (Steps.trans hcomes ?_));refine .head (step_leave_returned hleave) ?_;rw[finish_atR_inRangeFunc];exact .one (stepR_endRangeFunc hendl)
    .exact hR'.elim
  |panicked ch=>
   cases re with
   |ret v=>exact hend.elim
   |panic v=>
    obtain⟨v',rfl,hv⟩:=hend;refine⟨.panic v,_,m3,_,w3,hR,hn,hr3,v',.inRangeFunc (w.heap.size+1)::k,hv,?_⟩;rw[<-Frame.raise_atR]
    exact .head hstart (Steps.trans hcomes (.one (step_leave_panicked hleave)))
 |_=>rw[hinv]at hk;exact hk.elim
theorem zD(hD:eZ P):∀(c) {Q} {n} {m} {A} {a} {w} {k},dr H n c=true->Rel P M0 S0 b cs0 m A a w->A.n=n ->
  wp P H c Q A->oU P M0 S0 b cs0 n (lone (b.atR a (.code c::k)) (bn A.rc cs0) w) k Q:=by
 intro c
 induction c with
 |skip=>intro Q n m A a w k _ hr hn h;exact⟨.normal,A,m,a,w,h,hn,hr,.one stepR_skip⟩
 |region id ops rd=>
  intro Q n m A a w k hc hr hn h
  cases rd with
  |false=>
   have:=JV (k:=k) hc ops.toList 0 rfl hr hn h;rw[oZ]at this
   exact this.of_steps (.one stepR_region)
  |true=>
   simp only[dr,bY]at hc
   exact hD hc.1 hc.2 hr hn h
 |seq x y ihx ihy=>
  intro Q n m A a w k hc hr hn h;simp only[dr,bY]at hc;obtain⟨e,A1,m1,a1,w1,hq,hn1,hr1,harr⟩:=ihx (k:=.code y::k) hc.1 hr hn h
  have pass:∀(e':Ex),e'≠.normal->Q e' A1->s6 P (Avoid M0 m1) (lone (b.atR a (.code x::.code y::k)) (bn A.rc cs0) w) b (.code y::k) (bn A1.rc cs0) a1 w1 e' ->
    oU P M0 S0 b cs0 n (lone (b.atR a (.code (.seq x y)::k)) (bn A.rc cs0) w) k Q:=
   λe' he hq harr=>⟨e',A1,m1,a1,w1,hq,hn1,hr1,.of_steps (.one stepR_seq) (.pass (x:=.code y) rfl he harr)⟩
  cases e with
  |normal=>exact(ihy (k:=k) hc.2 hr1 hn1 hq).of_steps (.head stepR_seq harr)
  |exit id=>exact pass (.exit id) (by simp) hq harr
  |ret=>exact pass .ret (by simp) hq harr
  |panic v=>exact pass (.panic v) (by simp) hq harr
 |cond c x y ihx ihy=>
  intro Q n m A a w k hc hr hn h;simp only[dr,bY]at hc;unfold wp yX at h;split at h
  .rename_i t ht;have hv:a.eval c=.bool t:=lN (ht▸hr.eval c);have hs:=stepR_cond (P:=P) (b:=b) (a:=a) (k:=k) (cs:=bn A.rc cs0) (w:=w) (x:=x) (y:=y) hv
   cases t with
   |true=>exact(ihx (k:=k) hc.1 hr hn (h.1 rfl)).of_steps (.one hs)
   |false=>exact(ihy (k:=k) hc.2 hr hn (h.2 rfl)).of_steps (.one hs)
  .exact h.elim
 |block id x ihx=>
  intro Q n m A a w k hc hr hn h;obtain⟨e,A1,m1,a1,w1,hq,hn1,hr1,harr⟩:=ihx (k:=.inBlock id::k) hc hr hn h
  cases e with
  |normal=>exact⟨.normal,A1,m1,a1,w1,hq,hn1,hr1,.head stepR_block (Steps.trans harr (.one stepR_inBlock))⟩
  |exit id'=>
   by_cases hid:id'=id
   .simp only[j4,hid,if_true]at hq;exact⟨.normal,A1,m1,a1,w1,hq,hn1,hr1,.head stepR_block (harr.1 k (by simp[exitTo,hid]))⟩
   .simp only[j4,hid,if_false]at hq;have this:(id==id')=false:=by simp;exact λh=>hid h.symm
    have hx:exitTo id' (.inBlock id::k)=exitTo id' k:=by simp[exitTo,this]
    exact⟨.exit id',A1,m1,a1,w1,hq,hn1,hr1,λk' hk=>.head stepR_block (harr.1 k' (by rw[hx];exact hk)),
     λhk=>let ⟨k₁,h1,h2⟩:=harr.2 (by rw[hx];exact hk);⟨k₁,h1,.head stepR_block h2⟩⟩
  |ret=>exact⟨.ret,A1,m1,a1,w1,hq,hn1,hr1,let ⟨k₁,h1⟩:=harr;⟨k₁,.head stepR_block h1⟩⟩
  |panic v=>exact⟨.panic v,A1,m1,a1,w1,hq,hn1,hr1,let ⟨v',t,h1,h2⟩:=harr;⟨v',t,h1,.head stepR_block h2⟩⟩
 |loop x ihx=>
  intro Q n m A a w k hc hr hn h
  obtain⟨B,⟨hn2,hrc2,hw⟩,hX⟩:=h (λB=>∀{m:List (Option Nat)} {a:Act} {w:World},Rel P M0 S0 b cs0 m B a w->B.n=n->oU P M0 S0 b cs0 n (lone (b.atR a (.code x::.inLoop x::k)) (bn B.rc cs0) w) k Q) (by
   intro B hB m a w hr hn;obtain⟨e,A1,m1,a1,w1,hq,hn1,hr1,harr⟩:=ihx (k:=.inLoop x::k) hc hr hn hB
   have pass:∀(e':Ex),e'≠.normal->Q e' A1->s6 P (Avoid M0 m1) (lone (b.atR a (.code x::.inLoop x::k)) (bn B.rc cs0) w) b (.inLoop x::k) (bn A1.rc cs0) a1 w1 e' ->
     oU P M0 S0 b cs0 n (lone (b.atR a (.code x::.inLoop x::k)) (bn B.rc cs0) w) k Q:=
    λe' he hq harr=>⟨e',A1,m1,a1,w1,hq,hn1,hr1,.pass (x:=.inLoop x) rfl he harr⟩
   cases e with
   |normal=>
    obtain⟨D,⟨hn2,hrc2,hw⟩,hD⟩:=hq;obtain⟨m2,hr2⟩:=hw M0 S0 b cs0 m1 a1 w1 hr1;have:=hD hr2 (hn2.trans hn1);rw[hrc2]at this
    exact this.of_steps (Steps.trans harr (.one stepR_inLoop))
   |exit id=>exact pass (.exit id) (by simp) hq harr
   |ret=>exact pass .ret (by simp) hq harr
   |panic v=>exact pass (.panic v) (by simp) hq harr)
  obtain⟨m2,hr2⟩:=hw M0 S0 b cs0 m a w hr;have:=hX hr2 (hn2.trans hn);rw[hrc2]at this
  exact this.of_steps (.one stepR_loop)
 |rangeFunc g ps assign body _ _=>intro Q n m A a w k hc hr hn h;exact FG hr hn h
 |scope x ihx=>
  intro Q n m A a w k hc hr hn h
  have h0:step P (lone (b.atR a (.code (.scope x)::k)) (bn A.rc cs0) w)=.next (lone (b.atR a (.code x::.inScope x::k)) (bn A.rc cs0) w):=
   step_lone_go (by simp[stepG,stepG.exec,Frame.atR])
  obtain⟨e,A1,m1,a1,w1,hq,hn1,hr1,harr⟩:=ihx (k:=.inScope x::k) hc hr hn h
  have h1:step P (lone (b.atR a1 (.inScope x::k)) (bn A1.rc cs0) w1)=.next (lone (b.atR a1 k) (bn A1.rc cs0) w1):=
   step_lone_go (by simp[stepG,stepG.exec,Frame.atR])
  cases e with
  |normal=>exact⟨.normal,A1,m1,a1,w1,hq,hn1,hr1,.head h0 (Steps.trans harr (.one h1))⟩
  |exit id=>
   have hx:exitTo id (.inScope x::k)=exitTo id k:=by simp[exitTo]
   exact⟨.exit id,A1,m1,a1,w1,hq,hn1,hr1,λk' hk=>.head h0 (harr.1 k' (by rw[hx];exact hk)),
    λhk=>let ⟨k₁,g1,g2⟩:=harr.2 (by rw[hx];exact hk);⟨k₁,g1,.head h0 g2⟩⟩
  |ret=>exact⟨.ret,A1,m1,a1,w1,hq,hn1,hr1,let ⟨k₁,h1⟩:=harr;⟨k₁,.head h0 h1⟩⟩
  |panic v=>exact⟨.panic v,A1,m1,a1,w1,hq,hn1,hr1,let ⟨v',t,h1,h2⟩:=harr;⟨v',t,h1,.head h0 h2⟩⟩
 |label l=>intro Q n m A a w k _ hr hn h;exact⟨.normal,A,m,a,w,h,hn,hr,.one stepR_label⟩
 |exit id=>intro Q n m A a w k _ hr hn h;exact⟨.exit id,A,m,a,w,h,hn,hr,λ_ hk=>.one (stepR_exit hk),λhk=>⟨k,hk,.refl P _⟩⟩
 |ret=>intro Q n m A a w k _ hr hn h;exact⟨.ret,A,m,a,w,h,hn,hr,k,.refl P _⟩
 |_=>intro Q n m A a w k _ hr hn h;exact h.elim
def SW (P:Program) (H:Hints) (c:Code) (Q:Ex->AAct->Prop) (A:AAct):Prop:=
 ∀(M0:Nat->Prop) (S0:Mem) (b:Frame) (cs0:List Frame) (n:Nat) (m:List (Option Nat)) (a:Act) (w:World) (k:List Item),dr H n c=true->Rel P M0 S0 b cs0 m A a w->A.n=n ->
  oU P M0 S0 b cs0 n (lone (b.atR a (.code c::k)) (bn A.rc cs0) w) k Q
theorem DJ(hD:eZ P){H}{c}{Q}{A}(h:wp P H c Q A):SW P H c Q A:=
 λ_ _ _ _ _ _ _ _ _ hok hr hn=>zD hD c hok hr hn h
end Abs
end Go.Proofs.YtmndpldajflenaaGreatDoor
