/- CONTRACTS of the program's functions, and laws on what they return. No conditions but those in the theorems' heads. -/
import Derived.Test.YtmndpldajflenaaGreatDoorAbsWp
import Derived.RangeFuncIn
set_option linter.all false
namespace Go.Proofs.YtmndpldajflenaaGreatDoor
namespace Abs
variable {P:Program} {M0:Nat->Prop} {S0:Mem} {b:Frame} {cs0:List Frame} {m:List (Option Nat)} {A:AAct} {a:Act} {w:World}
theorem oI(M0)(S):Rep M0 S undef (.p (.tuple [])):=aC (.tuple rfl (by simp))
theorem Rel.eval(h:Rel P M0 S0 b cs0 m A a w)(x):Rep M0 ⟨m,A.h,w⟩ (a.eval x) (A.eval x):=by
 cases x with
 |tmp t=>exact h.tmps t
 |const v=>
  show Rep M0 _ v (match mB v with|some x=>.p x|none=>.undef)
  cases e:mB v with
  |none=>exact trivial
  |some q=>exact aC (fB e)
 |global g=>exact trivial
 |func f=>exact aC (.func rfl rfl (by simp) (by simp))
theorem Ev.len{base}{S j}(e:Ev base S j)(o:base<=S.h.length):base<=j.h.length:=by
 rcases pu base with h|h
 .omega
 .have i:base-1<S.h.length:=by omega
  obtain⟨l,a,_⟩:=e.obj (base-1) _ (by omega) (bO i);have:=(aB.1 a).1;omega
theorem Ev.rc{S i}(e:Ev S.h.length S i){c}(h:RcRep M0 S b cs0 c):RcRep M0 i b cs0 c:=by
 cases c with
 |pend v=>
  obtain⟨q,o,v',a,l,j⟩:=h
  exact⟨q,o,v',a,l,e.repP j⟩
 |_=>exact h
theorem Ev.repL{S a}(e:Ev S.h.length S a){C}{l}(h:dz (Rep M0 S) C l):dz (Rep M0 a) C l:=h.imp λ_ _ _ i=>e.keep i
theorem Ev.mode{S i}(e:Ev S.h.length S i){a}{u}(h:iG M0 S a u):iG M0 i a u:=by
 cases u with
 |pan v=>
  obtain⟨v',l,j⟩:=h
  exact⟨v',l,e.repP j⟩
 |_=>exact h
theorem Ev.defRep{S z}(e:Ev S.h.length S z){d}{x}(h:Fz P M0 S d x):Fz P M0 z d x:=by
 cases x with
 |fn g args=>
  obtain⟨fv,cap,l,o,u,i,q⟩:=h
  exact⟨fv,cap,l,o,u,i,e.repL q⟩
 |collected id=>
  obtain⟨bl,u,i⟩:=h;refine⟨bl,u,?_⟩;rcases i with i|⟨i,q⟩
  .obtain⟨y,j,a⟩:=e.obj id _ (aB.1 i).1 i;rcases a with rfl|⟨_,_,_,a,_⟩|⟨a,_⟩
   .exact .inl j
   .cases a
   .exact absurd rfl a
  .obtain⟨y,j,a⟩:=e.obj id _ (aB.1 i).1 i;rcases a with rfl|⟨_,_,_,a,_⟩|⟨_,a,v⟩
   .exact .inl j
   .cases a
   .refine .inr ⟨?_,v.trans q⟩;cases y<;>first|exact j|cases a
theorem Ev.defsRep{S i}(e:Ev S.h.length S i):∀{a} {xs},DefsRep P M0 S a xs->DefsRep P M0 i a xs
 |[],[],_=>trivial
 |_::_,_::_,h=>⟨e.defRep h.1,e.defsRep h.2⟩
 |[],_::_,h=>h.elim
 |_::_,[],h=>h.elim
theorem Rel.ahead(h:Rel P M0 S0 b cs0 m A a w){m':List (Option Nat)}{h':Heap}{w':World}(e:Ev A.h.length ⟨m,A.h,w⟩ ⟨m',h',w'⟩)(i:HOk P M0 ⟨m',h',w'⟩) :
  Rel P M0 S0 b cs0 m' { A with h:=h' } a w' where
 size:=h.size
 tmps:=λt=>e.keep (h.tmps t)
 hok:=i
 ev:=h.ev.trans (e.mono h.le.1)
 le:=⟨iI h.le.1 (e.len (ba _)),h.le.2⟩
 df:=e.defsRep h.df
 rc:=e.rc h.rc
theorem Rel.put(h:Rel P M0 S0 b cs0 m A a w){dst}{v}{v'}(l:∀d,dst=some d->d<A.n)(j:Rep M0 ⟨m,A.h,w⟩ v' v) :
  Rel P M0 S0 b cs0 m (A.put dst v A.h) (a.put dst v') w:=by
 cases dst with
 |none=>exact h
 |some d=>
  have i:=l d rfl
  exact
   {size:=by simpa[AAct.put,Act.put]using h.size
    tmps:=λt=>by
     show Rep M0 ⟨m,A.h,w⟩ ((a.tmps.setIfInBounds d v').getD t undef) (if t=d then v else A.tmps t);by_cases e:t=d
     .subst e;have:t<a.tmps.size:=by rw[h.size];exact i
      simpa[this]using j
     .simp only[e,if_false];have:=h.tmps t;simpa[Rx (Ne.symm e)]using this
    hok:=h.hok
    ev:=h.ev
    le:=h.le
    df:=h.df
    rc:=h.rc }
theorem qq(A:AAct)(dst)(v)(h):A.put dst v h={ A with h:=h }.put dst v h:=by cases dst<;>rfl
theorem oo(A:AAct)(dst)(v)(h):(A.put dst v h).n=A.n:=by cases dst<;>rfl
theorem lK(A:AAct)(dst)(v)(h):(A.put dst v h).rc=A.rc:=by cases dst<;>rfl
theorem gY(A:AAct)(dst)(v)(h):(A.put dst v h).h=h:=by cases dst<;>rfl
theorem lO{n}{o}(h:nd n o=true):∀d,o.dst=some d->d<n:=by
 intro d a;simp only[nd,a]at h;exact of_decide_eq_true h
def Me (P:Program) (M0:Nat->Prop) (S0:Mem) (b:Frame) (cs0:List Frame) (n:Nat) (mc:Machine) (k:List Item) (K:AAct->Prop) (Q:Ex->AAct->Prop):Prop:=
 (∃A' m' a' w',K A'/\A'.n=n/\Rel P M0 S0 b cs0 m' A' a' w'/\Steps P mc (lone (b.atR a' k) (bu A'.rc cs0) w')) \/
 (∃v A' m' a' w' v' todo,Q (.panic v) A'/\A'.n=n/\Rel P M0 S0 b cs0 m' A' a' w'/\RepP (Avoid M0 m') w' v' v /\
  Steps P mc (lone { b.atR a' todo with mode:=.panicking [{ v:=v',recovered:=false }] } (bu A'.rc cs0) w'))
theorem uw{cs}{v}{a}(h:recoverD cs=some (v,a)):recoverD a=none:=by
 unfold recoverD at h;split at h
 .split at h
  .cases h;rfl
  .cases h
 .cases h
theorem Rel.semAt(h:Rel P M0 S0 b cs0 m A a w){o}(e:(∀c,o.op≠.defer c)\/A.rc≠.rnd):o.semAt b.roundOf a.eval=execOp a.eval o:=by
 rcases e with e|e
 .exact Oper.semAt_eq _ _ _ e
 .have:b.roundOf=none:=by
   have:=h.rc;cases i:A.rc<;>rw[i]at this e
   .exact this
   .exact absurd rfl e
   .exact this.1
   .exact this.1
   .exact this.1
  rw[this];rfl
theorem Po(h:Rel P M0 S0 b cs0 m A a w):A.rc=.no\/A.rc=.rnd\/(b.roundOf=none/\b.kind=.deferred):=by
 have:=h.rc;cases e:A.rc<;>rw[e]at this
 .exact .inl rfl
 .exact .inr (.inl rfl)
 .exact .inr (.inr ⟨this.1,this.2.1⟩)
 .exact .inr (.inr ⟨this.1,this.2.1⟩)
 .exact .inr (.inr ⟨this.1,this.2.1⟩)
theorem GZ{H}{o}{i}{rest}{ops}{k}{K}{Q}
  (ho:ops[i]?=some o) (Y:nd A.n o=true) (hw:Region.wanted o (yielded ops a.tmps)=true) (y:Rel P M0 S0 b cs0 m A a w)
  (h:kt P A o.dst K Q (bh P (aE H) o A.eval A.h)) :
  Me P M0 S0 b cs0 A.n (lone (b.atR a (.inRegion ops (i::rest)::k)) (bu A.rc cs0) w) (.inRegion ops rest::k) K Q:=by
 have hok:=TL (P:=P) (mu:=aE H) (o:=o) y.hok y.eval;have D:∀(a':Act) v,(b.atR a' (.inRegion ops (i::rest)::k)).finish v=b.atR (a'.put o.dst v) (.inRegion ops rest::k):=by
  intro a' v;rw[Frame.finish_atR,ho];rfl
 have J:=stepGR_op (P:=P) (b:=b) (k:=k) (cs:=bu A.rc cs0) (w:=w) (rest:=rest) ho hw;have a1:∀c,o.op=.defer c->(∃d,bh P (aE H) o A.eval A.h=.dfr d)\/bh P (aE H) o A.eval A.h=.stuck:=by
  intro c L;unfold bh;rw[L];dsimp only;split
  .unfold vi;split
   .exact .inl ⟨_,rfl⟩
   .exact .inr rfl
  .exact .inr rfl
 generalize b6:bh P (aE H) o A.eval A.h=r at h hok a1;have T:(∀d,r≠.dfr d)->r≠.stuck->o.semAt b.roundOf a.eval=execOp a.eval o:=by
  intro X h2;refine y.semAt (.inl λc L=>?_);rcases a1 c L with⟨d,Y⟩|hs
  .exact X d Y
  .exact h2 hs
 cases r with
 |val v h'=>
  obtain⟨⟨m',X,w'⟩,v',rfl,j,I,G,b2⟩:=hok;rw[T (by simp) (by simp)]at J;have C:=(y.ahead I G).put (dst:=o.dst) (lO Y) b2;rw[<-qq]at C;refine .inl ⟨_,m',_,w',h,oo _ _ _ _,C,?_⟩;rw[lK,<-D]
  exact .one (step_lone_go (by rw[J];simp only at j;simp[stepG.apply,j]))
 |skip h'=>
  obtain⟨⟨m',X,w'⟩,rfl,j,I,G⟩:=hok;rw[T (by simp) (by simp)]at J;have C:=(y.ahead I G).put (dst:=o.dst) (lO Y) (oI _ _);rw[<-qq]at C;refine .inl ⟨_,m',_,w',h,oo _ _ _ _,C,?_⟩;rw[lK,<-D]
  exact .one (step_lone_go (by rw[J];simp[stepG.apply,j]))
 |call f args=>
  obtain⟨u,j,F⟩:=hok;rw[T (by simp) (by simp)]at J;obtain⟨a0,a7⟩:=h M0 m w u y.hok F;have E:(execOp a.eval o).run P w=.ok (.enter f u) w:=j.trans (a0 w);obtain⟨e,w',fr,⟨re,h',m',hR,I,G,q⟩,S,_,O⟩:=a7 (b.atR a (.inRegion ops (i::rest)::k)::bu A.rc cs0)
  have z:step P (lone (b.atR a (.inRegion ops (i::rest)::k)) (bu A.rc cs0) w) =
    .next (lone (Frame.enter P f u .normal) (b.atR a (.inRegion ops (i::rest)::k)::bu A.rc cs0) w):=
   step_lone_go (by rw[J];simp[stepG.apply,E,Frame.atR])
  cases e with
  |outgrown=>exact q.elim
  |returned v'=>
   cases re with
   |panic v=>exact q.elim
   |ret v=>
    have C:=(y.ahead I G).put (dst:=o.dst) (lO Y) q;rw[<-qq]at C;refine .inl ⟨_,m',_,w',hR,oo _ _ _ _,C,?_⟩;rw[lK,<-D]
    exact .head z (Steps.trans S (.one (step_leave_returned O)))
  |panicked ch=>
   cases re with
   |ret v=>exact q.elim
   |panic v=>
    obtain⟨v',rfl,hv⟩:=q;refine .inr ⟨v,_,m',a,w',v',.inRegion ops (i::rest)::k,hR,rfl,y.ahead I G,hv,?_⟩;rw[<-Frame.raise_atR]
    exact .head z (Steps.trans S (.one (step_leave_panicked O)))
 |yld l args=>
  obtain⟨bl,u,j,F,a5⟩:=hok;rw[T (by simp) (by simp)]at J;obtain⟨⟨ob,b5,b1⟩,b0⟩:=h;have a4:m.getD l none=some bl:=by
   rcases a5 with a6|a4
   .have R:A.h[l]?=some .dead:=a6;rw[b5]at R;cases R;cases b1
   .exact a4
  obtain⟨f,tmps,assign,body,hy,Z⟩:=b0 M0 m w u bl y.hok F a4;have E:(execOp a.eval o).run P w=.ok (.round bl f tmps assign body) w:=j.trans hy;obtain⟨e,w',⟨re,h',m',hR,I,G,q⟩,N⟩:=Z (b.atR a (.inRegion ops (i::rest)::k)) (bu A.rc cs0)
  have z:step P (lone (b.atR a (.inRegion ops (i::rest)::k)) (bu A.rc cs0) w) =
    .next (lone (Frame.round bl f tmps assign body .normal) (b.atR a (.inRegion ops (i::rest)::k)::bu A.rc cs0) w):=
   step_lone_go (by rw[J];simp[stepG.apply,E,Frame.atR])
  cases e with
  |outgrown=>exact q.elim
  |returned v'=>
   cases re with
   |panic v=>exact q.elim
   |ret v=>
    have C:=(y.ahead I G).put (dst:=o.dst) (lO Y) q;rw[<-qq]at C;refine .inl ⟨_,m',_,w',hR,oo _ _ _ _,C,?_⟩;rw[lK,<-D]
    exact .head z N
  |panicked ch=>
   cases re with
   |ret v=>exact q.elim
   |panic v=>
    obtain⟨v',rfl,hv⟩:=q;refine .inr ⟨v,_,m',a,w',v',.inRegion ops (i::rest)::k,hR,rfl,y.ahead I G,hv,?_⟩;rw[<-Frame.raise_atR]
    exact .head z N
 |dfr d=>
  have a8:A.rc≠.rnd:=by intro L;simp only[kt,L,tD]at h
  have h':K ({ A with df:=d::A.df }.put o.dst (.p (.tuple [])) A.h):=by
   simp only[kt]at h;cases L:A.rc<;>rw[L]at h<;>first|exact h|exact absurd L a8
  rw[y.semAt (.inr a8)]at J
  cases d with
  |collected id=>exact hok.elim
  |fn g args=>
   obtain⟨fv,cap,V,u,j,b4,F⟩:=hok
   have a3:Rel P M0 S0 b cs0 m { A with df:=.fn g args::A.df } { a with defers:={ target:=.fn fv cap,args:=V }::a.defers } w:=
    ⟨y.size,y.tmps,y.hok,y.ev,y.le,⟨⟨fv,cap,V,u,rfl,b4,F⟩,y.df⟩,y.rc⟩
   refine .inl ⟨_,m,_,w,h',oo _ _ _ _,a3.put (dst:=o.dst) (lO Y) (oI _ _),?_⟩;rw[lK,<-D]
   exact .one (step_lone_go (by
    rw[J];have E:(execOp a.eval o).run P w=_:=j
    simp[stepG.apply,E,Frame.atR]))
 |recover=>
  rw[T (by simp) (by simp)]at J;have j:(execOp a.eval o).run P w=.ok .recover w:=hok;have b3:Rep M0 ⟨m,A.h,w⟩ .nilIface (.p .niliface):=aC .niliface;have b7:=Po y;have M:=y.rc
  have quiet:b.roundOf=none->b.kind=.deferred->recoverD (bu A.rc cs0)=none->K (A.put o.dst (.p .niliface) A.h) ->
    Me P M0 S0 b cs0 A.n (lone (b.atR a (.inRegion ops (i::rest)::k)) (bu A.rc cs0) w) (.inRegion ops rest::k) K Q:=by
   intro X h2 h3 hK;refine .inl ⟨_,m,_,w,hK,oo _ _ _ _,y.put (dst:=o.dst) (lO Y) b3,?_⟩;rw[lK,<-D];refine .one (step_lone_go ?_);have U:=tryRecover_deferred (fr:=b.atR a (.inRegion ops (i::rest)::k)) h2 (bu A.rc cs0);rw[h3]at U;have a2:(b.atR a (.inRegion ops (i::rest)::k)).roundOf=none:=X;rw[J];simp[stepG.apply,j,U,a2]
  simp only[kt]at h
  cases L:A.rc with
  |no=>rw[L]at h;exact h.elim
  |rnd=>rw[L]at h;exact h.elim
  |none=>
   rw[L]at h M;rw[L]at quiet
   exact quiet M.1 M.2.1 M.2.2 h
  |got v=>
   rw[L]at h M;rw[L]at quiet;obtain⟨X,h2,v',a9,h3⟩:=M;refine quiet X h2 ?_ h;simp only[bu,h3]
   exact uw h3
  |pend v=>
   rw[L]at h M;obtain⟨X,h2,v',a9,h3,h4⟩:=M;have a3:Rel P M0 S0 b cs0 m { A with rc:=.got v } a w:=⟨y.size,y.tmps,y.hok,y.ev,y.le,y.df,⟨X,h2,v',a9,h3⟩⟩
   refine .inl ⟨_,m,_,w,h,oo _ _ _ _,a3.put (dst:=o.dst) (lO Y) (aC h4),?_⟩;rw[lK,<-D];refine .one (step_lone_go ?_);have U:=tryRecover_deferred (fr:=b.atR a (.inRegion ops (i::rest)::k)) h2 cs0;rw[h3]at U;have a2:(b.atR a (.inRegion ops (i::rest)::k)).roundOf=none:=X;rw[L]at J;simp only[bu]at J;rw[show bu (Rc.pend v) cs0=cs0 from rfl,J]
   simp[stepG.apply,j,U,a2,bu,h3]
 |panic v=>
  obtain⟨v',j,hv⟩:=hok;rw[T (by simp) (by simp)]at J;refine .inr ⟨v,A,m,a,w,v',.inRegion ops (i::rest)::k,h,rfl,y,hv,?_⟩;rw[<-Frame.raise_atR]
  exact .one (step_lone_go (by rw[J];simp[stepG.apply,j]))
 |stuck=>exact h.elim
end Abs
end Go.Proofs.YtmndpldajflenaaGreatDoor
namespace Go.Proofs.YtmndpldajflenaaGreatDoor
namespace Abs
variable {P:Program} {M0:Nat->Prop} {S0:Mem} {b:Frame} {cs0:List Frame} {m:List (Option Nat)} {A:AAct} {a:Act} {w:World} {H:Hints}
def t8 (P:Program) (M:Nat->Prop) (mc:Machine) (b:Frame) (k:List Item) (cs:List Frame) (a:Act) (w:World):Ex->Prop
 |.normal=>Steps P mc (lone (b.atR a k) cs w)
 |.exit id=>(∀k',exitTo id k=some k'->Steps P mc (lone (b.atR a k') cs w)) /\
   (exitTo id k=none->∃k₁,exitTo id k₁=none/\Steps P mc (lone (b.atR a (.code (.exit id)::k₁)) cs w))
 |.ret=>∃k₁,Steps P mc (lone (b.atR a (.code .ret::k₁)) cs w)
 |.panic v=>∃v' todo,RepP M w v' v/\Steps P mc (lone { b.atR a todo with mode:=.panicking [{ v:=v',recovered:=false }] } cs w)
def qS (P:Program) (M0:Nat->Prop) (S0:Mem) (b:Frame) (cs0:List Frame) (n:Nat) (mc:Machine) (k:List Item) (Q:Ex->AAct->Prop):Prop:=
 ∃e A' m' a' w',Q e A'/\A'.n=n/\Rel P M0 S0 b cs0 m' A' a' w'/\t8 P (Avoid M0 m') mc b k (bu A'.rc cs0) a' w' e
theorem t8.of_steps{M}{y j}{k}{cs}{e}(h:Steps P y j)(h':t8 P M j b k cs a w e):t8 P M y b k cs a w e:=by
 cases e with
 |normal=>exact Steps.trans h h'
 |exit id=>exact⟨λz q=>h.trans (h'.1 z q),λq=>let ⟨o,i,u⟩:=h'.2 q;⟨o,i,h.trans u⟩⟩
 |ret=>exact let ⟨o,i⟩:=h';⟨o,h.trans i⟩
 |panic v=>exact let ⟨v',l,i,u⟩:=h';⟨v',l,i,h.trans u⟩
theorem qS.of_steps{n}{i a}{k}{Q}(h:Steps P i a)(h':qS P M0 S0 b cs0 n a k Q):qS P M0 S0 b cs0 n i k Q:=
 let ⟨e,v,m',u,w',q,o,l,j⟩:=h';⟨e,v,m',u,w',q,o,l,j.of_steps h⟩
theorem t8.pass{M}{l}{x}{k}{cs}{e}(hx:x.plain=true)(q:e≠.normal)(h:t8 P M l b (x::k) cs a w e):t8 P M l b k cs a w e:=by
 have i:∀id,exitTo id (x::k)=exitTo id k:=by intro id;cases x<;>simp_all [exitTo,Item.plain]
 cases e with
 |normal=>exact absurd rfl q
 |exit id=>exact⟨λo j=>h.1 o (by rw[i];exact j),λj=>h.2 (by rw[i];exact j)⟩
 |ret=>exact h
 |panic v=>exact h
theorem ue{ops}{o}{i:Nat}(e:ops[i]?=some o)(hw:Region.wanted o (yielded ops a.tmps)=false) :
  ((ops[i]?).map (Region.wanted · (yielded ops a.tmps))).getD false=false:=by simp[e,hw]
theorem Rel.wanted(h:Rel P M0 S0 b cs0 m A a w){ops}{o}{t}(hw:bo ops A o=some t):Region.wanted o (yielded ops a.tmps)=t:=by
 unfold bo at hw;unfold Region.wanted
 cases y:o.guard with
 |none=>rw[y]at hw;cases hw;rfl
 |some g=>
  obtain⟨j,i⟩:=g;rw[y]at hw;simp only at hw |-;unfold yielded;unfold p0 at hw
  cases C:(ops[j]?).bind (·.dst) with
  |none=>rw[C]at hw;cases hw;rfl
  |some d=>
   rw[C]at hw;simp only at hw;have q:=h.tmps d;simp only[n9];split at hw
   .rename_i bb e;rw[e]at q;have:=nX q;cases hw;rw[ji]at this
    cases u:a.tmps[d]? with
    |none=>rw[u]at this;cases this
    |some z=>
     rw[u]at this;simp only[fT]at this;subst this;cases bb<;>cases i<;>rfl
   .rename_i l e;rw[e]at q;have v:RepP (Avoid M0 m) w (a.tmps.getD d undef) (.tuple l):=q;cases hw;rw[ji]at v
    cases u:a.tmps[d]? with
    |none=>rfl
    |some z=>
     rw[u]at v;simp only[fT]at v;cases v;rfl
   .cases hw
theorem Py{ops}{Q}{n}{k}(S:ops.toList.all (nd n)=true):∀(l) (i),ops.toList.drop i=l ->
  ∀{m A a w},Rel P M0 S0 b cs0 m A a w->A.n=n->iu P H ops Q l A ->
   qS P M0 S0 b cs0 n (lone (b.atR a (.inRegion ops ((List.range ops.size).drop i)::k)) (bu A.rc cs0) w) k Q:=by
 intro l
 induction l with
 |nil=>
  intro i hi m A a w E D h;have K:ops.size<=i:=by
   have:=congrArg List.length hi;simp at this;omega
  have:(List.range ops.size).drop i=[]:=by simp[K]
  rw[this]
  exact⟨.normal,A,m,a,w,h,D,E,.one stepR_region_end⟩
 |cons o rest M=>
  intro i hi m A a w E D h;have L:i<ops.size:=by
   have:=congrArg List.length hi;simp at this;omega
  have u:ops[i]?=some o:=by
   have F:ops.toList[i]?=some o:=by
    have:=qc (xs:=ops.toList) (i:=i) (j:=0);rw[hi]at this;simpa using this.symm
   simpa using F
  have z:(List.range ops.size).drop i=i::(List.range ops.size).drop (i+1):=by
   rw[zL (by simpa using L)];simp
  have q:ops.toList.drop (i+1)=rest:=by
   have:=congrArg List.tail hi;simpa[List.tail_drop]using this
  have I:nd A.n o=true:=by
   rw[D];exact kC.1 S o (by have:=aG (l:=ops.toList) (i:=i) (a:=o) (by simpa using u);exact this)
  rw[z];unfold iu at h
  cases hw:bo ops A o with
  |none=>rw[hw]at h;exact h.elim
  |some t=>
   rw[hw]at h;have G:=E.wanted hw
   cases t with
   |true=>
    have F:=h.1 rfl;rcases GZ (i:=i) (rest:=(List.range ops.size).drop (i+1)) (k:=k) u I G E F with⟨O,m',N,w',U,y,e,C⟩|⟨v,O,m',N,w',v',J,T,y,e,R,C⟩
    .exact(M (i+1) q e (y.trans D) U).of_steps C
    .exact⟨.panic v,O,m',N,w',T,y.trans D,e,v',J,R,C⟩
   |false=>
    have F:=h.2 rfl;have C:=stepR_op_skip (P:=P) (b:=b) (k:=k) (cs:=bu A.rc cs0) (w:=w) (rest:=(List.range ops.size).drop (i+1)) (ue u G);simp only[u,n9]at C;have e:=E.put (dst:=o.dst) (lO I) (oI _ _);have:=M (i+1) q e ((oo _ _ _ _).trans D) F;rw[lK]at this;exact this.of_steps (.one C)
def dI (P:Program):Prop:=
 ∀{M0:Nat->Prop} {S0:Mem} {b:Frame} {cs0:List Frame} {m:List (Option Nat)} {A:AAct} {a:Act} {w:World} {H:Hints} {ops:Array Oper} {Q:Ex->AAct->Prop} {n id:Nat} {k:List Item},
  ops.toList.all (nd n)=true->Ew H ops=true->Rel P M0 S0 b cs0 m A a w->A.n=n->bE P H ops Q (xd H ops.toList) (nh H ops.toList A) (pQ H ops.toList A) ->
   qS P M0 S0 b cs0 n (lone (b.atR a (.code (.region id ops true)::k)) (bu A.rc cs0) w) k Q
theorem FJ{S}(i:HOk P M0 S)(id){w'}(hw:Fr S.m S.w w')(u:∀x bl,x≠id->S.m.getD x none=some bl->w'.heap[bl]?=S.w.heap[bl]?) :
  HOk P M0 ⟨S.m,S.h.set id .dead,w'⟩/\Ev S.h.length S ⟨S.m,S.h.set id .dead,w'⟩:=by
 have j:Ev S.h.length S ⟨S.m,S.h.set id .dead,w'⟩:=
  {fr:=hw
   sub:=λbl h=>.inl h
   obj:=λx o hx l=>by
    by_cases a:x=id
    .subst a;exact⟨.dead,by simp[hx],.inl rfl⟩
    .exact⟨o,by simp[db (Ne.symm a),l],ObjEv.refl _ _⟩ }
 refine⟨?_,j⟩
 exact
  {len:=by simpa using i.len
   lt:=λbl h=>gk (i.lt bl h) hw.size
   m0:=λbl h=>⟨gk (i.m0 bl h).1 hw.size,(i.m0 bl h).2⟩
   inj:=i.inj
   obj:=λx o l=>by
    by_cases a:x=id
    .subst a;have e:(S.h.set x .dead)[x]?=some o:=l;have hx:x<S.h.length:=by
      have:=(aB.1 e).1;simpa using this
     rw[fZ hx]at e;cases e;exact trivial
    .have e:(S.h.set id .dead)[x]?=some o:=l;rw[db (Ne.symm a)]at e;exact(i.obj x o e).keep j λbl q=>u x bl a q
   gl:=j.glob i.gl }
end Abs
end Go.Proofs.YtmndpldajflenaaGreatDoor
namespace Go.Proofs.YtmndpldajflenaaGreatDoor
namespace Abs
variable {P:Program} {M0:Nat->Prop}
theorem Lz{S}{f}{o}{args}{C}{g}{l}(j:Rep M0 S o f)(y:dz (Rep M0 S) C args)(h:fO f args=.call g l) :
  ∃(fv:Fn) (cap a e:Array Value),(∀w,(Deferred.ofValue o C).run P w=.ok { target:=.fn fv cap,args:=a } w) /\
   (∀w,(invoke (.fn fv cap) a).run P w=(callFunc g e).run P w)/\dz (Rep M0 S) e l:=by
 unfold fO at h;split at h
 .rename_i A first cap
  cases h;have i:RepP (Avoid M0 S.m) S.w o (.func (.func g) first cap):=j
  cases i with
  |@func _ F K _ _ j z i u=>
   exact⟨.func g,K,F++C,F++C++K,λw=>by simp[Deferred.ofValue],λw=>by simp[invoke],dP (dP (mo j i) y) (mo z u)⟩
 .rename_i A first cap
  cases h;obtain⟨F,K,rfl,i,u⟩:=j;exact⟨.func g,K,F++C,F++C++K,λw=>by simp[Deferred.ofValue],λw=>by simp[invoke],dP (dP (i.imp λv c _ q=>kJ q) y) (u.imp λv c _ q=>kJ q)⟩
 .cases h
 .cases h
end Abs
end Go.Proofs.YtmndpldajflenaaGreatDoor
namespace Go.Proofs.YtmndpldajflenaaGreatDoor
namespace Abs
variable {P:Program} {M0:Nat->Prop} {S0:Mem} {b:Frame} {cs0:List Frame} {m:List (Option Nat)} {A:AAct} {a:Act} {w:World} {H:Hints}
theorem Rel.roundOf_none(i:Rel P M0 S0 b cs0 m A a w)(e:A.rc≠.rnd):b.roundOf=none:=by
 have:=i.rc;cases j:A.rc<;>rw[j]at this e
 .exact this
 .exact absurd rfl e
 .exact this.1
 .exact this.1
 .exact this.1
theorem Na{Q}{n}{k}{pend}(e:Rel P M0 S0 b cs0 m A a w)(i:A.n=n)(h:tk Q A pend) :
  qS P M0 S0 b cs0 n (lone (b.atR a ((pend.map Item.code).toList++k)) (bu A.rc cs0) w) k Q:=by
 cases pend with
 |none=>exact⟨.normal,A,m,a,w,h,i,e,.refl P _⟩
 |some c=>
  cases c<;>first
   |exact h.elim
   |exact⟨.ret,A,m,a,w,h,i,e,k,.refl P _⟩
   |exact⟨.exit _,A,m,a,w,h,i,e,λ_ j=>.one (stepR_exit j),λj=>⟨k,j,.refl P _⟩⟩
theorem Kk{Q}{n}{k}{g}{ps}{assign body}(R:Rel P M0 S0 b cs0 m A a w)(hn:A.n=n)
  (h:tD (ux P A (A.h++[.dblock,.loop A.n A.tmps ps assign body .ready none]) A.h.length Q (fO (A.eval g) [.ref .yl (A.h.length+1)])) A.rc) :
  qS P M0 S0 b cs0 n (lone (b.atR a (.code (.rangeFunc g ps assign body)::k)) (bu A.rc cs0) w) k Q:=by
 have b1:A.rc≠.rnd:=by intro hc;simp only[hc,tD]at h
 have hk:ux P A (A.h++[.dblock,.loop A.n A.tmps ps assign body .ready none]) A.h.length Q (fO (A.eval g) [.ref .yl (A.h.length+1)]):=by
  cases hc:A.rc<;>rw[hc]at h<;>first|exact h|exact absurd hc b1
 have b9:=R.roundOf_none b1
 cases K:fO (A.eval g) [.ref .yl (A.h.length+1)] with
 |call gf args=>
  rw[K]at hk;have M:m.length=A.h.length:=R.hok.len;obtain⟨r,j⟩:∃r:Loop,r={ state:=.ready,pending:=none,fn:=b.fn,tmps:=a.tmps,params:=ps,assign,body,defers:=w.heap.size }:=⟨_,rfl⟩
  obtain⟨O,q⟩:∃O:Mem,O=((⟨m,A.h,w⟩:Mem).new .dblock (.deferred (some []))):=⟨_,rfl⟩
  have k1:HOk P M0 O:=by
   rw[q];exact R.hok.new ⟨_,rfl,bw _ _⟩
  have e1:Ev A.h.length ⟨m,A.h,w⟩ O:=by rw[q];exact Ev.new _ M0 R.hok (ba _) _ _
  have l1:O.h.length=A.h.length+1:=by rw[q];simp[Mem.new]
  have z1:O.w.heap.size=w.heap.size+1:=by rw[q];simp[Mem.new]
  obtain⟨u,F⟩:∃u:Mem,u=O.new (.loop A.n A.tmps ps assign body .ready none) (.loop r):=⟨_,rfl⟩
  have d2:Ev O.h.length O u:=by rw[F];exact Ev.new _ M0 k1 (ba _) _ _
  have e2:Ev A.h.length O u:=d2.mono (by omega);have a3:Ev A.h.length ⟨m,A.h,w⟩ u:=e1.trans e2;have k2:HOk P M0 u:=by
   rw[F];refine k1.new ⟨_,r,rfl,bw _ _,by rw[j];exact R.size,?_,by rw[j],by rw[j],by rw[j],by rw[j],by rw[j],by rw[j];exact R.le.2⟩;intro t;rw[<-F,show r.tmps=a.tmps by rw[j]];exact a3.keep (R.tmps t)
  have hh:u.h=A.h++[.dblock,.loop A.n A.tmps ps assign body .ready none]:=by rw[F,q];simp[Mem.new]
  have a1:u.m=m++[some w.heap.size,some (w.heap.size+1)]:=by rw[F];simp[Mem.new,q]
  have a9:u.w=(w.alloc (.deferred (some []))).alloc (.loop r):=by rw[F,q];rfl
  have b2:u.m.getD A.h.length none=some w.heap.size:=by rw[a1,<-M];simp
  have J:u.m.getD (A.h.length+1) none=some (w.heap.size+1):=by rw[a1,<-M];simp
  have b4:u.h[A.h.length]?=some .dblock:=by rw[hh];simp
  have L:u.h[A.h.length+1]?=some (.loop A.n A.tmps ps assign body .ready none):=by rw[hh];simp
  obtain⟨m2,h2,G⟩:=u;simp only at hh a1 a9 b2 J b4 L;have c9:Rep M0 ⟨m2,h2,G⟩ (a.eval g) (A.eval g):=a3.keep (R.eval g)
  have hy:Rep M0 ⟨m2,h2,G⟩ (.func (.yield (w.heap.size+1)) #[] #[]) (.ref .yl (A.h.length+1)):=
   ⟨⟨w.heap.size+1,rfl⟩,.inr ⟨⟨_,L,rfl⟩,w.heap.size+1,J,rfl⟩⟩
  have d1:dz (Rep M0 ⟨m2,h2,G⟩) #[.func (.yield (w.heap.size+1)) #[] #[]] [.ref .yl (A.h.length+1)]:=by
   refine⟨rfl,λi c hi=>?_⟩
   cases i with
   |zero=>cases hi;exact hy
   |succ i=>cases hi
  obtain⟨fv,cap,a8,N,c5,c8,a7⟩:=Lz (P:=P) c9 d1 K;rw[<-hh]at hk;obtain⟨V,a6⟩:=hk M0 m2 G N k2 a7;have c3:Rel P M0 S0 b cs0 m2 { A with h:=h2,df:=.collected A.h.length::A.df } { a with defers:=[{ target:=.collected w.heap.size,args:=#[] }]++a.defers } G:=by
   have:=R.ahead a3 k2;exact⟨this.size,this.tmps,this.hok,this.ev,this.le,⟨⟨w.heap.size,rfl,.inr ⟨b4,b2⟩⟩,this.df⟩,this.rc⟩
  have z:=stepR_rangeFunc (P:=P) (b:=b) (a:=a) (k:=k) (cs:=bu A.rc cs0) (w:=w) (g:=g) (ps:=ps) (assign:=assign) (body:=body) (l:=w.heap.size+1)
   (mark:=[{ target:=.collected w.heap.size,args:=#[] }]) (w₁:=G) (w₁':=G) (w₂:=G) (d:={ target:=.fn fv cap,args:=a8 }) (f:=gf) (args:=N)
   (by rw[b9,run_enterLoop_outer,a9,j]) (by
    have:=c5 G
    simpa[resolve,Act.eval]using this) ((c8 G).trans (V G))
  obtain⟨e,w3,fr,⟨re,h3,m3,hR,b5,a2,y⟩,E,_,D⟩:=a6 (b.atR { a with defers:=[{ target:=.collected w.heap.size,args:=#[] }]++a.defers } (.inRangeFunc (w.heap.size+1)::k)::bu A.rc cs0);have b0:=c3.ahead b5 a2
  cases e with
  |outgrown=>exact y.elim
  |returned v'=>
   cases re with
   |panic v=>exact y.elim
   |ret v=>
    have U:mv Q { A with h:=h3,df:=.collected A.h.length::A.df } (A.h.length+1) h3[A.h.length+1]?:=hR;unfold mv at U;split at U
    .rename_i n' d3 d4 d6 d5 st pend a0;obtain⟨b8,hj⟩:=U;obtain⟨o',c7,c6⟩:=b5.obj (A.h.length+1) _ (by rw[hh];simp) L;have Y:h3[A.h.length+1]?=some o':=c7;rw[a0]at Y;cases Y;have b3:m3.getD (A.h.length+1) none=some (w.heap.size+1):=by
      rcases c6 with he|⟨_,_,_,he,_⟩|⟨_,_,he⟩
      .cases he
      .cases he
      .exact he.trans J
     obtain⟨bl,r3,d0,I,_,_,_,_,_,b6,c4,_⟩:=a2.obj (A.h.length+1) _ a0;have Z:m3.getD (A.h.length+1) none=some bl:=d0;rw[b3]at Z;cases Z;have a4:w3.heap[w.heap.size+1]?=some (.loop r3):=I;have a5:=run_endLoop (P:=P) a4 (by rw[b6];exact b8);rw[<-c4]at hj;have X:=jx (S:=⟨m3,h3,w3⟩) a2 (o:=.dead) (ob:=.loop { r3 with state:=.exhausted }) b3 a0 I (tg I) (by intro C T f;simp) (.inl rfl) (λ_ _=>trivial);have c2:=b0.ahead X.2 X.1;have b7:=Na (k:=k) (n:=n) c2 hn hj;refine b7.of_steps (.head z (Steps.trans E ?_));refine .head (step_leave_returned D) ?_;rw[finish_atR_inRangeFunc];exact .one (stepR_endRangeFunc a5)
    .exact U.elim
  |panicked ch=>
   cases re with
   |ret v=>exact y.elim
   |panic v=>
    obtain⟨v',rfl,hv⟩:=y;refine⟨.panic v,_,m3,_,w3,hR,hn,b0,v',.inRangeFunc (w.heap.size+1)::k,hv,?_⟩;rw[<-Frame.raise_atR]
    exact .head z (Steps.trans E (.one (step_leave_panicked D)))
 |_=>rw[K]at hk;exact hk.elim
theorem xX(hD:dI P):∀(c) {Q} {n} {m} {A} {a} {w} {k},cZ H n c=true->Rel P M0 S0 b cs0 m A a w->A.n=n ->
  wp P H c Q A->qS P M0 S0 b cs0 n (lone (b.atR a (.code c::k)) (bu A.rc cs0) w) k Q:=by
 intro c
 induction c with
 |skip=>intro Q n m A a w k _ q z h;exact⟨.normal,A,m,a,w,h,z,q,.one stepR_skip⟩
 |region id ops Z=>
  intro Q n m A a w k F q z h
  cases Z with
  |false=>
   have:=Py (k:=k) F ops.toList 0 rfl q z h;rw[qd]at this
   exact this.of_steps (.one stepR_region)
  |true=>
   simp only[cZ,dQ]at F
   exact hD F.1 F.2 q z h
 |seq x y I T=>
  intro Q n m A a w k F q z h;simp only[cZ,dQ]at F;obtain⟨e,C,J,G,E,u,o,j,i⟩:=I (k:=.code y::k) F.1 q z h
  have pass:∀(M:Ex),M≠.normal->Q M C->t8 P (Avoid M0 J) (lone (b.atR a (.code x::.code y::k)) (bu A.rc cs0) w) b (.code y::k) (bu C.rc cs0) G E M ->
    qS P M0 S0 b cs0 n (lone (b.atR a (.code (.seq x y)::k)) (bu A.rc cs0) w) k Q:=
   λM he u i=>⟨M,C,J,G,E,u,o,j,.of_steps (.one stepR_seq) (.pass (x:=.code y) rfl he i)⟩
  cases e with
  |normal=>exact(T (k:=k) F.2 j o u).of_steps (.head stepR_seq i)
  |exit id=>exact pass (.exit id) (by simp) u i
  |ret=>exact pass .ret (by simp) u i
  |panic v=>exact pass (.panic v) (by simp) u i
 |cond c x y I T=>
  intro Q n m A a w k F q z h;simp only[cZ,dQ]at F;unfold wp CS at h;split at h
  .rename_i t ht;have hv:a.eval c=.bool t:=nX (ht▸q.eval c);have hs:=stepR_cond (P:=P) (b:=b) (a:=a) (k:=k) (cs:=bu A.rc cs0) (w:=w) (x:=x) (y:=y) hv
   cases t with
   |true=>exact(I (k:=k) F.1 q z (h.1 rfl)).of_steps (.one hs)
   |false=>exact(T (k:=k) F.2 q z (h.2 rfl)).of_steps (.one hs)
  .exact h.elim
 |block id x I=>
  intro Q n m A a w k F q z h;obtain⟨e,C,J,G,E,u,o,j,i⟩:=I (k:=.inBlock id::k) F q z h
  cases e with
  |normal=>exact⟨.normal,C,J,G,E,u,o,j,.head stepR_block (Steps.trans i (.one stepR_inBlock))⟩
  |exit N=>
   by_cases R:N=id
   .simp only[lR,R,if_true]at u;exact⟨.normal,C,J,G,E,u,o,j,.head stepR_block (i.1 k (by simp[exitTo,R]))⟩
   .simp only[lR,R,if_false]at u;have this:(id==N)=false:=by simp;exact λh=>R h.symm
    have hx:exitTo N (.inBlock id::k)=exitTo N k:=by simp[exitTo,this]
    exact⟨.exit N,C,J,G,E,u,o,j,λk' K=>.head stepR_block (i.1 k' (by rw[hx];exact K)),
     λK=>let ⟨S,L,X⟩:=i.2 (by rw[hx];exact K);⟨S,L,.head stepR_block X⟩⟩
  |ret=>exact⟨.ret,C,J,G,E,u,o,j,let ⟨S,L⟩:=i;⟨S,.head stepR_block L⟩⟩
  |panic v=>exact⟨.panic v,C,J,G,E,u,o,j,let ⟨v',t,L,X⟩:=i;⟨v',t,L,.head stepR_block X⟩⟩
 |loop x I=>
  intro Q n m A a w k F q z h
  obtain⟨B,⟨V,O,hw⟩,hX⟩:=h (λB=>∀{m:List (Option Nat)} {a:Act} {w:World},Rel P M0 S0 b cs0 m B a w->B.n=n->qS P M0 S0 b cs0 n (lone (b.atR a (.code x::.inLoop x::k)) (bu B.rc cs0) w) k Q) (by
   intro B hB m a w q z;obtain⟨e,C,J,G,E,u,o,j,i⟩:=I (k:=.inLoop x::k) F q z hB
   have pass:∀(M:Ex),M≠.normal->Q M C->t8 P (Avoid M0 J) (lone (b.atR a (.code x::.inLoop x::k)) (bu B.rc cs0) w) b (.inLoop x::k) (bu C.rc cs0) G E M ->
     qS P M0 S0 b cs0 n (lone (b.atR a (.code x::.inLoop x::k)) (bu B.rc cs0) w) k Q:=
    λM he u i=>⟨M,C,J,G,E,u,o,j,.pass (x:=.inLoop x) rfl he i⟩
   cases e with
   |normal=>
    obtain⟨D,⟨V,O,hw⟩,hD⟩:=u;obtain⟨m2,U⟩:=hw M0 S0 b cs0 J G E j;have:=hD U (V.trans o);rw[O]at this
    exact this.of_steps (Steps.trans i (.one stepR_inLoop))
   |exit id=>exact pass (.exit id) (by simp) u i
   |ret=>exact pass .ret (by simp) u i
   |panic v=>exact pass (.panic v) (by simp) u i)
  obtain⟨m2,U⟩:=hw M0 S0 b cs0 m a w q;have:=hX U (V.trans z);rw[O]at this
  exact this.of_steps (.one stepR_loop)
 |rangeFunc g ps assign body _ _=>intro Q n m A a w k F q z h;exact Kk q z h
 |scope x I=>
  intro Q n m A a w k F q z h
  have Y:step P (lone (b.atR a (.code (.scope x)::k)) (bu A.rc cs0) w)=.next (lone (b.atR a (.code x::.inScope x::k)) (bu A.rc cs0) w):=
   step_lone_go (by simp[stepG,stepG.exec,Frame.atR])
  obtain⟨e,C,J,G,E,u,o,j,i⟩:=I (k:=.inScope x::k) F q z h
  have L:step P (lone (b.atR G (.inScope x::k)) (bu C.rc cs0) E)=.next (lone (b.atR G k) (bu C.rc cs0) E):=
   step_lone_go (by simp[stepG,stepG.exec,Frame.atR])
  cases e with
  |normal=>exact⟨.normal,C,J,G,E,u,o,j,.head Y (Steps.trans i (.one L))⟩
  |exit id=>
   have hx:exitTo id (.inScope x::k)=exitTo id k:=by simp[exitTo]
   exact⟨.exit id,C,J,G,E,u,o,j,λk' K=>.head Y (i.1 k' (by rw[hx];exact K)),
    λK=>let ⟨S,g1,g2⟩:=i.2 (by rw[hx];exact K);⟨S,g1,.head Y g2⟩⟩
  |ret=>exact⟨.ret,C,J,G,E,u,o,j,let ⟨S,L⟩:=i;⟨S,.head Y L⟩⟩
  |panic v=>exact⟨.panic v,C,J,G,E,u,o,j,let ⟨v',t,L,X⟩:=i;⟨v',t,L,.head Y X⟩⟩
 |label l=>intro Q n m A a w k _ q z h;exact⟨.normal,A,m,a,w,h,z,q,.one stepR_label⟩
 |exit id=>intro Q n m A a w k _ q z h;exact⟨.exit id,A,m,a,w,h,z,q,λ_ K=>.one (stepR_exit K),λK=>⟨k,K,.refl P _⟩⟩
 |ret=>intro Q n m A a w k _ q z h;exact⟨.ret,A,m,a,w,h,z,q,k,.refl P _⟩
 |_=>intro Q n m A a w k _ q z h;exact h.elim
def SW (P:Program) (H:Hints) (c:Code) (Q:Ex->AAct->Prop) (A:AAct):Prop:=
 ∀(M0:Nat->Prop) (S0:Mem) (b:Frame) (cs0:List Frame) (n:Nat) (m:List (Option Nat)) (a:Act) (w:World) (k:List Item),cZ H n c=true->Rel P M0 S0 b cs0 m A a w->A.n=n ->
  qS P M0 S0 b cs0 n (lone (b.atR a (.code c::k)) (bu A.rc cs0) w) k Q
theorem xW(i:dI P){H}{c}{Q}{A}(h:wp P H c Q A):SW P H c Q A:=
 λ_ _ _ _ _ _ _ _ _ hok a e=>xX i c hok a e h
theorem Rq{H}{c}{Q}{A B}(hw:fS P A B)(h:SW P H c Q B):SW P H c Q A:=
 λM0 S0 b cs0 n m a w k hok i j=>by
  obtain⟨q,o,l⟩:=hw;obtain⟨m',e⟩:=l M0 S0 b cs0 m a w i;have:=h M0 S0 b cs0 n m' a w k hok e (q.trans j);rwa [o]at this
theorem gT(J:dI P){H}{x y}{Q}{A}(h:wp P H x (eH (SW P H y Q) Q) A):SW P H (.seq x y) Q A:=
 λM0 S0 b cs0 n m a w k C F G=>by
  simp only[cZ,dQ]at C;obtain⟨e,E,z,D,u,j,q,o,i⟩:=xX J x (k:=.code y::k) C.1 F G h
  have pass:∀(l:Ex),l≠.normal->Q l E->t8 P (Avoid M0 z) (lone (b.atR a (.code x::.code y::k)) (bu A.rc cs0) w) b (.code y::k) (bu E.rc cs0) D u l ->
    qS P M0 S0 b cs0 n (lone (b.atR a (.code (.seq x y)::k)) (bu A.rc cs0) w) k Q:=
   λl I j i=>⟨l,E,z,D,u,j,q,o,.of_steps (.one stepR_seq) (.pass (x:=.code y) rfl I i)⟩
  cases e with
  |normal=>exact(j M0 S0 b cs0 n z D u k C.2 o q).of_steps (.head stepR_seq i)
  |exit id=>exact pass (.exit id) (by simp) j i
  |ret=>exact pass .ret (by simp) j i
  |panic v=>exact pass (.panic v) (by simp) j i
end Abs
end Go.Proofs.YtmndpldajflenaaGreatDoor
