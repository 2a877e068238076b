/- CONTRACTS of functions and laws. No conditions but those in the heads. -/
import Derived.Test.YtgafommgcfhkkaaGreatDoorAbsPut
import Derived.RangeFuncIn
import Derived.RangeFuncLeaves
set_option linter.all false
namespace Go.Proofs.YtgafommgcfhkkaaGreatDoor
namespace Abs
variable {P:Program} {M0:Nat->Prop} {S0:Mem} {b:Frame} {cs0:List Frame} {m:List (Option Nat)} {A:AAct} {a:Act} {w:World}
def rB(M0)(S):Rep M0 S undef (.p (.tuple [])):=aR (.tuple rfl (by simp))
def Rel.eval(h:Rel P M0 S0 b cs0 m A a w)(x):Rep M0 ⟨m,A.h,w⟩ (a.eval x) (A.eval x):=by
 cases x with
 |tmp t=>exact h.tmps t
 |const v=>
  show Rep M0 _ v (match pA v with|some x=>.p x|none=>.undef)
  cases e:pA v with
  |none=>exact trivial
  |some q=>exact aR (iS e)
 |global g=>exact trivial
 |func f=>exact aR (.func rfl rfl (by simp) (by simp))
def Ev.len{base}{S l}(e:Ev base S l)(u:base<=S.h.length):base<=l.h.length:=by
 rcases q9 base with h|h
 .omega
 .have j:base-1<S.h.length:=by omega
  obtain⟨q,i,_⟩:=e.obj (base-1) _ (by omega) (bL j);grind
def Ev.rc{S j}(e:Ev S.h.length S j){c}(h:RcRep M0 S b cs0 c):RcRep M0 j b cs0 c:=by
 cases c with
 |pend v=>
  obtain⟨y,u,v',i,q,l⟩:=h
  exact⟨y,u,v',i,q,e.repP l⟩
 |_=>exact h
def Ev.repL{S i}(e:Ev S.h.length S i){C}{l}(h:eD (Rep M0 S) C l):eD (Rep M0 i) C l:=h.imp λ_ _ _ j=>e.keep j
def Ev.mode{S j}(e:Ev S.h.length S j){i}{u}(h:kt M0 S i u):kt M0 j i u:=by
 cases u with
 |pan v=>
  obtain⟨v',q,l⟩:=h
  exact⟨v',q,e.repP l⟩
 |_=>exact h
def Ev.defRep{S C}(e:Ev S.h.length S C){d}{x}(h:J4 P M0 S d x):J4 P M0 C d x:=by
 cases x with
 |fn g args=>
  obtain⟨fv,cap,q,u,y,j,v⟩:=h
  exact⟨fv,cap,q,u,y,j,e.repL v⟩
 |collected id=>
  obtain⟨bl,y,j⟩:=h;refine⟨bl,y,?_⟩;rcases j with j|⟨j,v⟩
  .obtain⟨A,l,i⟩:=e.obj id _ (aC.1 j).1 j;rcases i with rfl|⟨_,_,_,i,_⟩|⟨i,_⟩
   .exact .inl l
   .cases i
   .exact absurd rfl i
  .obtain⟨A,l,i⟩:=e.obj id _ (aC.1 j).1 j;rcases i with rfl|⟨_,_,_,i,_⟩|⟨_,i,z⟩
   .exact .inl l
   .cases i
   .refine .inr ⟨?_,z.trans v⟩;cases A<;>first|exact l|cases i
def Ev.defsRep{S i}(e:Ev S.h.length S i):∀{ds} {xs},DefsRep P M0 S ds xs->DefsRep P M0 i ds xs
 |[],[],_=>trivial
 |_::_,_::_,h=>⟨e.defRep h.1,e.defsRep h.2⟩
 |[],_::_,h=>h.elim
 |_::_,[],h=>h.elim
def Rel.ahead(h:Rel P M0 S0 b cs0 m A a w){m':List (Option Nat)}{h':Heap}{w':World}(e:Ev A.h.length ⟨m,A.h,w⟩ ⟨m',h',w'⟩)(i:HOk P M0 ⟨m',h',w'⟩) :
  Rel P M0 S0 b cs0 m' { A with h:=h' } a w' where
 size:=h.size
 tmps:=λt=>e.keep (h.tmps t)
 hok:=i
 ev:=h.ev.trans (e.mono h.le.1)
 le:=⟨fP h.le.1 (e.len (ba _)),h.le.2⟩
 df:=e.defsRep h.df
 rc:=e.rc h.rc
def Rel.put(h:Rel P M0 S0 b cs0 m A a w){dst}{v}{v'}(l:∀d,dst=some d->d<A.n)(j:Rep M0 ⟨m,A.h,w⟩ v' v) :
  Rel P M0 S0 b cs0 m (A.put dst v A.h) (a.put dst v') w:=by
 cases dst with
 |none=>exact h
 |some d=>
  have i:=l d rfl
  exact
   {size:=by simpa[AAct.put,Act.put]using h.size
    tmps:=λt=>by
     show Rep M0 ⟨m,A.h,w⟩ ((a.tmps.setIfInBounds d v').getD t undef) (if t=d then v else A.tmps t);by_cases e:t=d
     .subst e;have:t<a.tmps.size:=by rw[h.size];exact i
      simp_all
     .simp only[e,if_false];have:=h.tmps t;simpa[Xo (Ne.symm e)]using this
    hok:=h.hok
    ev:=h.ev
    le:=h.le
    df:=h.df
    rc:=h.rc }
def tC(A:AAct)(dst)(v)(h):A.put dst v h={ A with h:=h }.put dst v h:=by rfl
def ri(A:AAct)(dst)(v)(h):(A.put dst v h).n=A.n:=by cases dst<;>rfl
def ow(A:AAct)(dst)(v)(h):(A.put dst v h).rc=A.rc:=by cases dst<;>rfl
def kC(A:AAct)(dst)(v)(h):(A.put dst v h).h=h:=by cases dst<;>rfl
def oK{n}{o}(h:qd n o=true):∀d,o.dst=some d->d<n:=by
 intro d e;simp only[qd,e]at h;grind
def Rw (P:Program) (M0:Nat->Prop) (S0:Mem) (b:Frame) (cs0:List Frame) (n:Nat) (mc:Machine) (k:List Item) (K:AAct->Prop) (Q:Ex->AAct->Prop):Prop:=
 (∃A' m' a' w',K A'/\A'.n=n/\Rel P M0 S0 b cs0 m' A' a' w'/\Steps P mc (lone (b.atR a' k) (bR A'.rc cs0) w')) \/
 (∃v A' m' a' w' v' todo,Q (.panic v) A'/\A'.n=n/\Rel P M0 S0 b cs0 m' A' a' w'/\RepP (Avoid M0 m') w' v' v /\
  Steps P mc (lone { b.atR a' todo with mode:=.panicking [{ v:=v',recovered:=false }] } (bR A'.rc cs0) w'))
def yk{cs}{v}{e}(h:recoverD cs=some (v,e)):recoverD e=none:=by
 unfold recoverD at h;split at h
 .split at h
  .cases h;rfl
  .cases h
 .cases h
def Rel.semAt(h:Rel P M0 S0 b cs0 m A a w){o}(e:(∀c,o.op≠.defer c)\/A.rc≠.rnd):o.semAt b.roundOf a.eval=execOp a.eval o:=by
 rcases e with e|e
 .exact Oper.semAt_eq _ _ _ e
 .have:b.roundOf=none:=by
   have:=h.rc;cases i:A.rc<;>rw[i]at this e
   .exact this
   .grind
   .exact this.1
   .exact this.1
   .exact this.1
  rw[this];rfl
def U7(h:Rel P M0 S0 b cs0 m A a w):A.rc=.no\/A.rc=.rnd\/(b.roundOf=none/\b.kind=.deferred):=by
 have:=h.rc;cases e:A.rc<;>rw[e]at this
 .simp
 .simp
 .exact .inr (.inr ⟨this.1,this.2.1⟩)
 .exact .inr (.inr ⟨this.1,this.2.1⟩)
 .exact .inr (.inr ⟨this.1,this.2.1⟩)
def Lv{H}{o}{i}{rest}{ops}{k}{K}{Q}
  (ho:ops[i]?=some o) (Y:qd A.n o=true) (hw:Region.wanted o (yielded ops a.tmps)=true) (y:Rel P M0 S0 b cs0 m A a w)
  (h:mZ P A o.dst K Q (cv P (bd H) o A.eval A.h)) :
  Rw P M0 S0 b cs0 A.n (lone (b.atR a (.inRegion ops (i::rest)::k)) (bR A.rc cs0) w) (.inRegion ops rest::k) K Q:=by
 have hok:=ZD (P:=P) (mu:=bd H) (o:=o) y.hok y.eval;have D:∀(a':Act) v,(b.atR a' (.inRegion ops (i::rest)::k)).finish v=b.atR (a'.put o.dst v) (.inRegion ops rest::k):=by
  intro a' v;rw[Frame.finish_atR,ho];rfl
 have J:=stepGR_op (P:=P) (b:=b) (k:=k) (cs:=bR A.rc cs0) (w:=w) (rest:=rest) ho hw;have a1:∀c,o.op=.defer c->(∃d,cv P (bd H) o A.eval A.h=.dfr d)\/cv P (bd H) o A.eval A.h=.stuck:=by
  intro c L;unfold cv;rw[L];dsimp only;split
  .grind[zx,AAct.eval]
  .simp
 generalize b6:cv P (bd H) o A.eval A.h=r at h hok a1;have T:(∀d,r≠.dfr d)->r≠.stuck->o.semAt b.roundOf a.eval=execOp a.eval o:=by
  intro X h2;refine y.semAt (.inl λc L=>?_);rcases a1 c L with⟨d,Y⟩|hs
  .exact X d Y
  .exact h2 hs
 cases r with
 |val v h'=>
  obtain⟨⟨m',X,w'⟩,v',rfl,j,I,G,b2⟩:=hok;rw[T (by simp) (by simp)]at J;have C:=(y.ahead I G).put (dst:=o.dst) (oK Y) b2;rw[<-tC]at C;refine .inl ⟨_,m',_,w',h,ri _ _ _ _,C,?_⟩;rw[ow,<-D]
  exact .one (step_lone_go (by rw[J];simp only at j;simp[stepG.apply,j]))
 |skip h'=>
  obtain⟨⟨m',X,w'⟩,rfl,j,I,G⟩:=hok;rw[T (by simp) (by simp)]at J;have C:=(y.ahead I G).put (dst:=o.dst) (oK Y) (rB _ _);rw[<-tC]at C;refine .inl ⟨_,m',_,w',h,ri _ _ _ _,C,?_⟩;rw[ow,<-D]
  exact .one (step_lone_go (by rw[J];simp[stepG.apply,j]))
 |call f args=>
  obtain⟨u,j,F⟩:=hok;rw[T (by simp) (by simp)]at J;obtain⟨a0,a7⟩:=h M0 m w u y.hok F;have E:(execOp a.eval o).run P w=.ok (.enter f u) w:=j.trans (a0 w);obtain⟨e,w',fr,⟨re,h',m',hR,I,G,q⟩,S,_,O⟩:=a7 (b.atR a (.inRegion ops (i::rest)::k)::bR A.rc cs0)
  have z:step P (lone (b.atR a (.inRegion ops (i::rest)::k)) (bR A.rc cs0) w) =
    .next (lone (Frame.enter P f u .normal) (b.atR a (.inRegion ops (i::rest)::k)::bR A.rc cs0) w):=
   step_lone_go (by rw[J];simp[stepG.apply,E,Frame.atR])
  cases e with
  |outgrown=>exact q.elim
  |returned v'=>
   cases re with
   |panic v=>exact q.elim
   |ret v=>
    have C:=(y.ahead I G).put (dst:=o.dst) (oK Y) q;rw[<-tC]at C;refine .inl ⟨_,m',_,w',hR,ri _ _ _ _,C,?_⟩;rw[ow,<-D]
    exact .head z (Steps.trans S (.one (step_leave_returned O)))
  |panicked ch=>
   cases re with
   |ret v=>exact q.elim
   |panic v=>
    obtain⟨v',rfl,hv⟩:=q;refine .inr ⟨v,_,m',a,w',v',.inRegion ops (i::rest)::k,hR,rfl,y.ahead I G,hv,?_⟩;rw[<-Frame.raise_atR]
    exact .head z (Steps.trans S (.one (step_leave_panicked O)))
 |yld l args=>
  obtain⟨bl,u,j,F,a5⟩:=hok;rw[T (by simp) (by simp)]at J;obtain⟨⟨ob,b5,b1⟩,b0⟩:=h;have a4:m.getD l none=some bl:=by
   rcases a5 with a6|a4
   .have R:A.h[l]?=some .dead:=a6;rw[b5]at R;cases R;cases b1
   .exact a4
  obtain⟨f,tmps,assign,body,hy,Z⟩:=b0 M0 m w u bl y.hok F a4;have E:(execOp a.eval o).run P w=.ok (.round bl f tmps assign body) w:=j.trans hy;obtain⟨e,w',⟨re,h',m',hR,I,G,q⟩,N⟩:=Z (b.atR a (.inRegion ops (i::rest)::k)) (bR A.rc cs0)
  have z:step P (lone (b.atR a (.inRegion ops (i::rest)::k)) (bR A.rc cs0) w) =
    .next (lone (Frame.round bl f tmps assign body .normal) (b.atR a (.inRegion ops (i::rest)::k)::bR A.rc cs0) w):=
   step_lone_go (by rw[J];simp[stepG.apply,E,Frame.atR])
  cases e with
  |outgrown=>exact q.elim
  |returned v'=>
   cases re with
   |panic v=>exact q.elim
   |ret v=>
    have C:=(y.ahead I G).put (dst:=o.dst) (oK Y) q;rw[<-tC]at C;refine .inl ⟨_,m',_,w',hR,ri _ _ _ _,C,?_⟩;rw[ow,<-D]
    exact .head z N
  |panicked ch=>
   cases re with
   |ret v=>exact q.elim
   |panic v=>
    obtain⟨v',rfl,hv⟩:=q;refine .inr ⟨v,_,m',a,w',v',.inRegion ops (i::rest)::k,hR,rfl,y.ahead I G,hv,?_⟩;rw[<-Frame.raise_atR]
    exact .head z N
 |dfr d=>
  have a8:A.rc≠.rnd:=by intro L;simp only[mZ,L,xg]at h
  have h':K ({ A with df:=d::A.df }.put o.dst (.p (.tuple [])) A.h):=by
   simp only[mZ]at h;cases L:A.rc<;>rw[L]at h<;>first|exact h|grind
  rw[y.semAt (.inr a8)]at J
  cases d with
  |collected id=>exact hok.elim
  |fn g args=>
   obtain⟨fv,cap,V,u,j,b4,F⟩:=hok
   have a3:Rel P M0 S0 b cs0 m { A with df:=.fn g args::A.df } { a with defers:={ target:=.fn fv cap,args:=V }::a.defers } w:=
    ⟨y.size,y.tmps,y.hok,y.ev,y.le,⟨⟨fv,cap,V,u,rfl,b4,F⟩,y.df⟩,y.rc⟩
   refine .inl ⟨_,m,_,w,h',ri _ _ _ _,a3.put (dst:=o.dst) (oK Y) (rB _ _),?_⟩;rw[ow,<-D]
   exact .one (step_lone_go (by
    rw[J];have E:(execOp a.eval o).run P w=_:=j
    simp[stepG.apply,E,Frame.atR]))
 |recover=>
  rw[T (by simp) (by simp)]at J;have j:(execOp a.eval o).run P w=.ok .recover w:=hok;have b3:Rep M0 ⟨m,A.h,w⟩ .nilIface (.p .niliface):=aR .niliface;have b7:=U7 y;have M:=y.rc
  have quiet:b.roundOf=none->b.kind=.deferred->recoverD (bR A.rc cs0)=none->K (A.put o.dst (.p .niliface) A.h) ->
    Rw P M0 S0 b cs0 A.n (lone (b.atR a (.inRegion ops (i::rest)::k)) (bR A.rc cs0) w) (.inRegion ops rest::k) K Q:=by
   intro X h2 h3 hK;refine .inl ⟨_,m,_,w,hK,ri _ _ _ _,y.put (dst:=o.dst) (oK Y) b3,?_⟩;rw[ow,<-D];refine .one (step_lone_go ?_);have U:=tryRecover_deferred (fr:=b.atR a (.inRegion ops (i::rest)::k)) h2 (bR A.rc cs0);rw[h3]at U;have a2:(b.atR a (.inRegion ops (i::rest)::k)).roundOf=none:=X;rw[J];simp[stepG.apply,j,U,a2]
  simp only[mZ]at h
  cases L:A.rc with
  |no=>rw[L]at h;exact h.elim
  |rnd=>rw[L]at h;exact h.elim
  |none=>
   rw[L]at h M;rw[L]at quiet
   exact quiet M.1 M.2.1 M.2.2 h
  |got v=>
   rw[L]at h M;rw[L]at quiet;obtain⟨X,h2,v',a9,h3⟩:=M;refine quiet X h2 ?_ h;simp only[bR,h3]
   exact yk h3
  |pend v=>
   rw[L]at h M;obtain⟨X,h2,v',a9,h3,h4⟩:=M;have a3:Rel P M0 S0 b cs0 m { A with rc:=.got v } a w:=⟨y.size,y.tmps,y.hok,y.ev,y.le,y.df,⟨X,h2,v',a9,h3⟩⟩
   refine .inl ⟨_,m,_,w,h,ri _ _ _ _,a3.put (dst:=o.dst) (oK Y) (aR h4),?_⟩;rw[ow,<-D];refine .one (step_lone_go ?_);have U:=tryRecover_deferred (fr:=b.atR a (.inRegion ops (i::rest)::k)) h2 cs0;rw[h3]at U;have a2:(b.atR a (.inRegion ops (i::rest)::k)).roundOf=none:=X;rw[L]at J;simp only[bR]at J;rw[show bR (Rc.pend v) cs0=cs0 from rfl,J]
   simp[stepG.apply,j,U,a2,bR,h3]
 |panic v=>
  obtain⟨v',j,hv⟩:=hok;rw[T (by simp) (by simp)]at J;refine .inr ⟨v,A,m,a,w,v',.inRegion ops (i::rest)::k,h,rfl,y,hv,?_⟩;rw[<-Frame.raise_atR]
  exact .one (step_lone_go (by rw[J];simp[stepG.apply,j]))
 |stuck=>exact h.elim
variable {P:Program} {M0:Nat->Prop} {S0:Mem} {b:Frame} {cs0:List Frame} {m:List (Option Nat)} {A:AAct} {a:Act} {w:World} {H:Hints}
def uI (P:Program) (M:Nat->Prop) (mc:Machine) (b:Frame) (k:List Item) (cs:List Frame) (a:Act) (w:World):Ex->Prop
 |.normal=>Steps P mc (lone (b.atR a k) cs w)
 |.exit id=>(∀k',exitTo id k=some k'->Steps P mc (lone (b.atR a k') cs w)) /\
   (exitTo id k=none->∃k₁,exitTo id k₁=none/\Steps P mc (lone (b.atR a (.code (.exit id)::k₁)) cs w))
 |.ret=>∃k₁,Steps P mc (lone (b.atR a (.code .ret::k₁)) cs w)
 |.panic v=>∃v' todo,RepP M w v' v/\Steps P mc (lone { b.atR a todo with mode:=.panicking [{ v:=v',recovered:=false }] } cs w)
def qw (P:Program) (M0:Nat->Prop) (S0:Mem) (b:Frame) (cs0:List Frame) (n:Nat) (mc:Machine) (k:List Item) (Q:Ex->AAct->Prop):Prop:=
 ∃e A' m' a' w',Q e A'/\A'.n=n/\Rel P M0 S0 b cs0 m' A' a' w'/\uI P (Avoid M0 m') mc b k (bR A'.rc cs0) a' w' e
def uI.of_steps{M}{z j}{k}{cs}{e}(h:Steps P z j)(h':uI P M j b k cs a w e):uI P M z b k cs a w e:=by
 cases e with
 |normal=>exact Steps.trans h h'
 |exit id=>exact⟨λA u=>h.trans (h'.1 A u),λu=>let ⟨q,i,y⟩:=h'.2 u;⟨q,i,h.trans y⟩⟩
 |ret=>exact let ⟨q,i⟩:=h';⟨q,h.trans i⟩
 |panic v=>exact let ⟨v',l,i,y⟩:=h';⟨v',l,i,h.trans y⟩
def qw.of_steps{n}{j i}{k}{Q}(h:Steps P j i)(h':qw P M0 S0 b cs0 n i k Q):qw P M0 S0 b cs0 n j k Q:=
 let ⟨e,z,m',y,w',v,u,q,l⟩:=h';⟨e,z,m',y,w',v,u,q,l.of_steps h⟩
def uI.pass{M}{l}{x}{k}{cs}{e}(hx:x.plain=true)(u:e≠.normal)(h:uI P M l b (x::k) cs a w e):uI P M l b k cs a w e:=by
 have i:∀id,exitTo id (x::k)=exitTo id k:=by intro id;cases x<;>simp_all [exitTo,Item.plain]
 cases e with
 |normal=>grind
 |exit id=>grind[uI]
 |ret=>exact h
 |panic v=>exact h
def xU{ops}{o}{i:Nat}(e:ops[i]?=some o)(hw:Region.wanted o (yielded ops a.tmps)=false) :
  ((ops[i]?).map (Region.wanted · (yielded ops a.tmps))).getD false=false:=by simp[e,hw]
def Rel.wanted(h:Rel P M0 S0 b cs0 m A a w){ops}{o}{t}(hw:bU ops A o=some t):Region.wanted o (yielded ops a.tmps)=t:=by
 unfold bU at hw;unfold Region.wanted
 cases y:o.guard with
 |none=>grind
 |some g=>
  obtain⟨j,i⟩:=g;rw[y]at hw;simp only at hw |-;unfold yielded;unfold s6 at hw
  cases C:(ops[j]?).bind (·.dst) with
  |none=>grind
  |some d=>
   rw[C]at hw;simp only at hw;have q:=h.tmps d;simp only[iv];split at hw
   .rename_i D e;rw[e]at q;have:=qU q;cases hw;rw[ku]at this
    cases u:a.tmps[d]? with
    |none=>rw[u]at this;cases this
    |some z=>
     grind
   .rename_i l e;rw[e]at q;have v:RepP (Avoid M0 m) w (a.tmps.getD d undef) (.tuple l):=q;cases hw;rw[ku]at v
    cases u:a.tmps[d]? with
    |none=>rfl
    |some z=>
     rw[u]at v;simp only[gY]at v;cases v;rfl
   .cases hw
def Vg{ops}{Q}{n}{k}(S:ops.toList.all (qd n)=true):∀(l) (i),ops.toList.drop i=l ->
  ∀{m A a w},Rel P M0 S0 b cs0 m A a w->A.n=n->ke P H ops Q l A ->
   qw P M0 S0 b cs0 n (lone (b.atR a (.inRegion ops ((List.range ops.size).drop i)::k)) (bR A.rc cs0) w) k Q:=by
 intro l
 induction l with
 |nil=>
  intro i hi m A a w E D h;have K:ops.size<=i:=by
   have:=congrArg List.length hi;simp at this;omega
  have:(List.range ops.size).drop i=[]:=by simp[K]
  rw[this]
  exact⟨.normal,A,m,a,w,h,D,E,.one stepR_region_end⟩
 |cons o rest M=>
  intro i hi m A a w E D h;have L:i<ops.size:=by
   have:=congrArg List.length hi;simp at this;omega
  have u:ops[i]?=some o:=by
   have F:ops.toList[i]?=some o:=by
    have:=sc (xs:=ops.toList) (i:=i) (j:=0);rw[hi]at this;simpa using this.symm
   simpa using F
  have z:(List.range ops.size).drop i=i::(List.range ops.size).drop (i+1):=by
   rw[vY (by simpa using L)];simp
  have q:ops.toList.drop (i+1)=rest:=by
   have:=congrArg List.tail hi;simpa[List.tail_drop]using this
  have I:qd A.n o=true:=by
   rw[D];exact kl.1 S o (by grind)
  rw[z];unfold ke at h
  cases hw:bU ops A o with
  |none=>rw[hw]at h;exact h.elim
  |some t=>
   rw[hw]at h;have G:=E.wanted hw
   cases t with
   |true=>
    have F:=h.1 rfl;rcases Lv (i:=i) (rest:=(List.range ops.size).drop (i+1)) (k:=k) u I G E F with⟨O,m',N,w',U,y,e,C⟩|⟨v,O,m',N,w',v',J,T,y,e,R,C⟩
    .exact(M (i+1) q e (y.trans D) U).of_steps C
    .exact⟨.panic v,O,m',N,w',T,y.trans D,e,v',J,R,C⟩
   |false=>
    have F:=h.2 rfl;have C:=stepR_op_skip (P:=P) (b:=b) (k:=k) (cs:=bR A.rc cs0) (w:=w) (rest:=(List.range ops.size).drop (i+1)) (xU u G);simp only[u,iv]at C;have e:=E.put (dst:=o.dst) (oK I) (rB _ _);have:=M (i+1) q e ((ri _ _ _ _).trans D) F;rw[ow]at this;exact this.of_steps (.one C)
def eV (P:Program):Prop:=
 ∀{M0:Nat->Prop} {S0:Mem} {b:Frame} {cs0:List Frame} {m:List (Option Nat)} {A:AAct} {a:Act} {w:World} {H:Hints} {ops:Array Oper} {Q:Ex->AAct->Prop} {n id:Nat} {k:List Item},
  ops.toList.all (qd n)=true->IU H ops=true->Rel P M0 S0 b cs0 m A a w->A.n=n->cp P H ops Q (Bi H ops.toList) (qe H ops.toList A) (sO H ops.toList A) ->
   qw P M0 S0 b cs0 n (lone (b.atR a (.code (.region id ops true)::k)) (bR A.rc cs0) w) k Q
def Ke{S}(j:HOk P M0 S)(id){w'}(hw:Fr S.m S.w w')(v:∀x bl,x≠id->S.m.getD x none=some bl->w'.heap[bl]?=S.w.heap[bl]?) :
  HOk P M0 ⟨S.m,S.h.set id .dead,w'⟩/\Ev S.h.length S ⟨S.m,S.h.set id .dead,w'⟩:=by
 have l:Ev S.h.length S ⟨S.m,S.h.set id .dead,w'⟩:=
  {fr:=hw
   sub:=λbl h=>.inl h
   obj:=λx o hx q=>by
    by_cases e:x=id
    .grind[ObjEv]
    .exact⟨o,by grind,ObjEv.refl _ _⟩ }
 refine⟨?_,l⟩
 exact
  {len:=by simpa using j.len
   lt:=λbl h=>iy (j.lt bl h) hw.size
   m0:=λbl h=>⟨iy (j.m0 bl h).1 hw.size,(j.m0 bl h).2⟩
   inj:=j.inj
   obj:=λx o q=>by
    by_cases e:x=id
    .grind[ObjOk]
    .have i:(S.h.set id .dead)[x]?=some o:=q;rw[eS (Ne.symm e)]at i;exact(j.obj x o i).keep l λbl u=>v x bl e u
   gl:=l.glob j.gl }
variable {P:Program} {M0:Nat->Prop}
def QC{S}{f}{u}{args}{C}{g}{l}(q:Rep M0 S u f)(A:eD (Rep M0 S) C args)(h:ip f args=.call g l) :
  ∃(fv:Fn) (cap e i:Array Value),(∀w,(Deferred.ofValue u C).run P w=.ok { target:=.fn fv cap,args:=e } w) /\
   (∀w,(invoke (.fn fv cap) e).run P w=(callFunc g i).run P w)/\eD (Rep M0 S) i l:=by
 unfold ip at h;split at h
 .rename_i E first cap
  cases h;have j:RepP (Avoid M0 S.m) S.w u (.func (.func g) first cap):=q
  cases j with
  |@func _ F K _ _ q D j z=>
   exact⟨.func g,K,F++C,F++C++K,λw=>by rfl,λw=>by simp[invoke],fA (fA (pe q j) A) (pe D z)⟩
 .rename_i E first cap
  cases h;obtain⟨F,K,rfl,j,z⟩:=q;exact⟨.func g,K,F++C,F++C++K,λw=>by rfl,λw=>by simp[invoke],fA (fA (j.imp λv c _ y=>nj y) A) (z.imp λv c _ y=>nj y)⟩
 .cases h
 .cases h
variable {P:Program} {M0:Nat->Prop} {S0:Mem} {b:Frame} {cs0:List Frame} {m:List (Option Nat)} {A:AAct} {a:Act} {w:World} {H:Hints}
def Rel.roundOf_none(i:Rel P M0 S0 b cs0 m A a w)(e:A.rc≠.rnd):b.roundOf=none:=by
 have:=i.rc;cases j:A.rc<;>rw[j]at this e
 .exact this
 .grind
 .exact this.1
 .exact this.1
 .exact this.1
def Su{Q}{n}{k}{pend}(e:Rel P M0 S0 b cs0 m A a w)(i:A.n=n)(h:wX Q A pend) :
  qw P M0 S0 b cs0 n (lone (b.atR a ((pend.map Item.code).toList++k)) (bR A.rc cs0) w) k Q:=by
 cases pend with
 |none=>exact⟨.normal,A,m,a,w,h,i,e,.refl P _⟩
 |some c=>
  cases c<;>first
   |exact h.elim
   |exact⟨.ret,A,m,a,w,h,i,e,k,.refl P _⟩
   |exact⟨.exit _,A,m,a,w,h,i,e,λ_ j=>.one (stepR_exit j),λj=>⟨k,j,.refl P _⟩⟩
def Pl{Q}{n}{k}{g}{ps}{assign body}(R:Rel P M0 S0 b cs0 m A a w)(hn:A.n=n)
  (h:xg (yp P A (A.h++[.dblock,.loop A.n A.tmps ps assign body .ready none]) A.h.length Q (ip (A.eval g) [.ref .yl (A.h.length+1)])) A.rc) :
  qw P M0 S0 b cs0 n (lone (b.atR a (.code (.rangeFunc g ps assign body)::k)) (bR A.rc cs0) w) k Q:=by
 have b1:A.rc≠.rnd:=by intro hc;simp only[hc,xg]at h
 have hk:yp P A (A.h++[.dblock,.loop A.n A.tmps ps assign body .ready none]) A.h.length Q (ip (A.eval g) [.ref .yl (A.h.length+1)]):=by
  cases hc:A.rc<;>rw[hc]at h<;>first|exact h|grind
 have b9:=R.roundOf_none b1
 cases K:ip (A.eval g) [.ref .yl (A.h.length+1)] with
 |call gf args=>
  rw[K]at hk;have M:m.length=A.h.length:=R.hok.len;obtain⟨r,j⟩:∃r:Loop,r={ state:=.ready,pending:=none,fn:=b.fn,tmps:=a.tmps,params:=ps,assign,body,defers:=w.heap.size }:=⟨_,rfl⟩
  obtain⟨O,q⟩:∃O:Mem,O=((⟨m,A.h,w⟩:Mem).new .dblock (.deferred (some []))):=⟨_,rfl⟩
  have k1:HOk P M0 O:=by
   rw[q];exact R.hok.new ⟨_,rfl,cg _ _⟩
  have e1:Ev A.h.length ⟨m,A.h,w⟩ O:=by rw[q];exact Ev.new _ M0 R.hok (ba _) _ _
  have l1:O.h.length=A.h.length+1:=by rw[q];simp[Mem.new]
  have z1:O.w.heap.size=w.heap.size+1:=by rw[q];simp[Mem.new]
  obtain⟨u,F⟩:∃u:Mem,u=O.new (.loop A.n A.tmps ps assign body .ready none) (.loop r):=⟨_,rfl⟩
  have d2:Ev O.h.length O u:=by rw[F];exact Ev.new _ M0 k1 (ba _) _ _
  have e2:Ev A.h.length O u:=d2.mono (by omega);have a3:Ev A.h.length ⟨m,A.h,w⟩ u:=e1.trans e2;have k2:HOk P M0 u:=by
   rw[F];refine k1.new ⟨_,r,rfl,cg _ _,by rw[j];exact R.size,?_,by rw[j],by rw[j],by rw[j],by rw[j],by rw[j],by rw[j];exact R.le.2⟩;intro t;rw[<-F,show r.tmps=a.tmps by rw[j]];exact a3.keep (R.tmps t)
  have hh:u.h=A.h++[.dblock,.loop A.n A.tmps ps assign body .ready none]:=by rw[F,q];simp[Mem.new]
  have a1:u.m=m++[some w.heap.size,some (w.heap.size+1)]:=by rw[F];simp[Mem.new,q]
  have a9:u.w=(w.alloc (.deferred (some []))).alloc (.loop r):=by rw[F,q];rfl
  have b2:u.m.getD A.h.length none=some w.heap.size:=by rw[a1,<-M];simp
  have J:u.m.getD (A.h.length+1) none=some (w.heap.size+1):=by rw[a1,<-M];simp
  have b4:u.h[A.h.length]?=some .dblock:=by rw[hh];simp
  have L:u.h[A.h.length+1]?=some (.loop A.n A.tmps ps assign body .ready none):=by rw[hh];simp
  obtain⟨m2,h2,G⟩:=u;simp only at hh a1 a9 b2 J b4 L;have c9:Rep M0 ⟨m2,h2,G⟩ (a.eval g) (A.eval g):=a3.keep (R.eval g)
  have hy:Rep M0 ⟨m2,h2,G⟩ (.func (.yield (w.heap.size+1)) #[] #[]) (.ref .yl (A.h.length+1)):=
   ⟨⟨w.heap.size+1,rfl⟩,.inr ⟨⟨_,L,rfl⟩,w.heap.size+1,J,rfl⟩⟩
  have d1:eD (Rep M0 ⟨m2,h2,G⟩) #[.func (.yield (w.heap.size+1)) #[] #[]] [.ref .yl (A.h.length+1)]:=by
   refine⟨rfl,λi c hi=>?_⟩
   cases i with
   |zero=>simp_all
   |succ i=>cases hi
  obtain⟨fv,cap,a8,N,c5,c8,a7⟩:=QC (P:=P) c9 d1 K;rw[<-hh]at hk;obtain⟨V,a6⟩:=hk M0 m2 G N k2 a7;have c3:Rel P M0 S0 b cs0 m2 { A with h:=h2,df:=.collected A.h.length::A.df } { a with defers:=[{ target:=.collected w.heap.size,args:=#[] }]++a.defers } G:=by
   have:=R.ahead a3 k2;exact⟨this.size,this.tmps,this.hok,this.ev,this.le,⟨⟨w.heap.size,rfl,.inr ⟨b4,b2⟩⟩,this.df⟩,this.rc⟩
  have z:=stepR_rangeFunc (P:=P) (b:=b) (a:=a) (k:=k) (cs:=bR A.rc cs0) (w:=w) (g:=g) (ps:=ps) (assign:=assign) (body:=body) (l:=w.heap.size+1)
   (mark:=[{ target:=.collected w.heap.size,args:=#[] }]) (w₁:=G) (w₁':=G) (w₂:=G) (d:={ target:=.fn fv cap,args:=a8 }) (f:=gf) (args:=N)
   (by rw[b9,run_enterLoop_outer,a9,j]) (by
    have:=c5 G
    simpa[resolve,Act.eval]using this) ((c8 G).trans (V G))
  obtain⟨e,w3,fr,⟨re,h3,m3,hR,b5,a2,y⟩,E,_,D⟩:=a6 (b.atR { a with defers:=[{ target:=.collected w.heap.size,args:=#[] }]++a.defers } (.inRangeFunc (w.heap.size+1)::k)::bR A.rc cs0);have b0:=c3.ahead b5 a2
  cases e with
  |outgrown=>exact y.elim
  |returned v'=>
   cases re with
   |panic v=>exact y.elim
   |ret v=>
    have U:pj Q { A with h:=h3,df:=.collected A.h.length::A.df } (A.h.length+1) h3[A.h.length+1]?:=hR;unfold pj at U;split at U
    .rename_i n' d3 d4 d6 d5 st pend a0;obtain⟨b8,hj⟩:=U;obtain⟨o',c7,c6⟩:=b5.obj (A.h.length+1) _ (by rw[hh];simp) L;have Y:h3[A.h.length+1]?=some o':=c7;rw[a0]at Y;cases Y;have b3:m3.getD (A.h.length+1) none=some (w.heap.size+1):=by
      rcases c6 with he|⟨_,_,_,he,_⟩|⟨_,_,he⟩
      .cases he
      .cases he
      .grind
     obtain⟨bl,r3,d0,I,_,_,_,_,_,b6,c4,_⟩:=a2.obj (A.h.length+1) _ a0;have Z:m3.getD (A.h.length+1) none=some bl:=d0;rw[b3]at Z;cases Z;have a4:w3.heap[w.heap.size+1]?=some (.loop r3):=I;have a5:=run_endLoop (P:=P) a4 (by grind);rw[<-c4]at hj;have X:=lq (S:=⟨m3,h3,w3⟩) a2 (o:=.dead) (ob:=.loop { r3 with state:=.exhausted }) b3 a0 I (wQ I) (by simp) (.inl rfl) (λ_ _=>trivial);have c2:=b0.ahead X.2 X.1;have b7:=Su (k:=k) (n:=n) c2 hn hj;refine b7.of_steps (.head z (Steps.trans E ?_));refine .head (step_leave_returned D) ?_;rw[finish_atR_inRangeFunc];exact .one (stepR_endRangeFunc a5)
    .exact U.elim
  |panicked ch=>
   cases re with
   |ret v=>exact y.elim
   |panic v=>
    obtain⟨v',rfl,hv⟩:=y;refine⟨.panic v,_,m3,_,w3,hR,hn,b0,v',.inRangeFunc (w.heap.size+1)::k,hv,?_⟩;rw[<-Frame.raise_atR]
    exact .head z (Steps.trans E (.one (step_leave_panicked D)))
 |_=>rw[K]at hk;exact hk.elim
def B1(hD:eV P):∀(c) {Q} {n} {m} {A} {a} {w} {k},dV H n c=true->Rel P M0 S0 b cs0 m A a w->A.n=n ->
  wp P H c Q A->qw P M0 S0 b cs0 n (lone (b.atR a (.code c::k)) (bR A.rc cs0) w) k Q:=by
 intro c
 induction c with
 |skip=>intro Q n m A a w k _ u C h;exact⟨.normal,A,m,a,w,h,C,u,.one stepR_skip⟩
 |region id ops a0=>
  intro Q n m A a w k G u C h
  cases a0 with
  |false=>
   have:=Vg (k:=k) G ops.toList 0 rfl u C h;rw[qy]at this
   exact this.of_steps (.one stepR_region)
  |true=>
   simp only[dV,eI]at G
   exact hD G.1 G.2 u C h
 |seq x y J U=>
  intro Q n m A a w k G u C h;simp only[dV,eI]at G;obtain⟨e,E,K,I,F,z,q,j,i⟩:=J (k:=.code y::k) G.1 u C h
  have pass:∀(N:Ex),N≠.normal->Q N E->uI P (Avoid M0 K) (lone (b.atR a (.code x::.code y::k)) (bR A.rc cs0) w) b (.code y::k) (bR E.rc cs0) I F N ->
    qw P M0 S0 b cs0 n (lone (b.atR a (.code (.seq x y)::k)) (bR A.rc cs0) w) k Q:=
   λN he z i=>⟨N,E,K,I,F,z,q,j,.of_steps (.one stepR_seq) (.pass (x:=.code y) rfl he i)⟩
  cases e with
  |normal=>exact(U (k:=k) G.2 j q z).of_steps (.head stepR_seq i)
  |exit id=>exact pass (.exit id) (by simp) z i
  |ret=>exact pass .ret (by simp) z i
  |panic v=>exact pass (.panic v) (by simp) z i
 |cond c x y J U=>
  intro Q n m A a w k G u C h;simp only[dV,eI]at G;unfold wp G3 at h;split at h
  .rename_i t ht;have hv:a.eval c=.bool t:=qU (ht▸u.eval c);have hs:=stepR_cond (P:=P) (b:=b) (a:=a) (k:=k) (cs:=bR A.rc cs0) (w:=w) (x:=x) (y:=y) hv
   cases t with
   |true=>exact(J (k:=k) G.1 u C (h.1 rfl)).of_steps (.one hs)
   |false=>exact(U (k:=k) G.2 u C (h.2 rfl)).of_steps (.one hs)
  .exact h.elim
 |block id x J=>
  intro Q n m A a w k G u C h;obtain⟨e,E,K,I,F,z,q,j,i⟩:=J (k:=.inBlock id::k) G u C h
  cases e with
  |normal=>exact⟨.normal,E,K,I,F,z,q,j,.head stepR_block (Steps.trans i (.one stepR_inBlock))⟩
  |exit O=>
   by_cases S:O=id
   .simp only[lE,S,if_true]at z;exact⟨.normal,E,K,I,F,z,q,j,.head stepR_block (i.1 k (by simp[exitTo,S]))⟩
   .simp only[lE,S,if_false]at z;have this:(id==O)=false:=by simp;exact λh=>S h.symm
    have hx:exitTo O (.inBlock id::k)=exitTo O k:=by simp[exitTo,this]
    exact⟨.exit O,E,K,I,F,z,q,j,λk' L=>.head stepR_block (i.1 k' (by grind)),
     λL=>let ⟨T,M,Y⟩:=i.2 (by grind);⟨T,M,.head stepR_block Y⟩⟩
  |ret=>exact⟨.ret,E,K,I,F,z,q,j,let ⟨T,M⟩:=i;⟨T,.head stepR_block M⟩⟩
  |panic v=>exact⟨.panic v,E,K,I,F,z,q,j,let ⟨v',t,M,Y⟩:=i;⟨v',t,M,.head stepR_block Y⟩⟩
 |loop x J=>
  intro Q n m A a w k G u C h
  obtain⟨B,⟨X,R,hw⟩,hX⟩:=h (λB=>∀{m:List (Option Nat)} {a:Act} {w:World},Rel P M0 S0 b cs0 m B a w->B.n=n->qw P M0 S0 b cs0 n (lone (b.atR a (.code x::.inLoop x::k)) (bR B.rc cs0) w) k Q) (by
   intro B hB m a w u C;obtain⟨e,E,K,I,F,z,q,j,i⟩:=J (k:=.inLoop x::k) G u C hB
   have pass:∀(N:Ex),N≠.normal->Q N E->uI P (Avoid M0 K) (lone (b.atR a (.code x::.inLoop x::k)) (bR B.rc cs0) w) b (.inLoop x::k) (bR E.rc cs0) I F N ->
     qw P M0 S0 b cs0 n (lone (b.atR a (.code x::.inLoop x::k)) (bR B.rc cs0) w) k Q:=
    λN he z i=>⟨N,E,K,I,F,z,q,j,.pass (x:=.inLoop x) rfl he i⟩
   cases e with
   |normal=>
    obtain⟨D,⟨X,R,hw⟩,hD⟩:=z;obtain⟨m2,V⟩:=hw M0 S0 b cs0 K I F j;have:=hD V (X.trans q);rw[R]at this
    exact this.of_steps (Steps.trans i (.one stepR_inLoop))
   |exit id=>exact pass (.exit id) (by simp) z i
   |ret=>exact pass .ret (by simp) z i
   |panic v=>exact pass (.panic v) (by simp) z i)
  obtain⟨m2,V⟩:=hw M0 S0 b cs0 m a w u;have:=hX V (X.trans C);rw[R]at this
  exact this.of_steps (.one stepR_loop)
 |rangeFunc g ps assign body _ _=>intro Q n m A a w k G u C h;exact Pl u C h
 |scope x J=>
  intro Q n m A a w k G u C h
  have Z:step P (lone (b.atR a (.code (.scope x)::k)) (bR A.rc cs0) w)=.next (lone (b.atR a (.code x::.inScope x::k)) (bR A.rc cs0) w):=
   step_lone_go (by rfl)
  obtain⟨e,E,K,I,F,z,q,j,i⟩:=J (k:=.inScope x::k) G u C h
  have M:step P (lone (b.atR I (.inScope x::k)) (bR E.rc cs0) F)=.next (lone (b.atR I k) (bR E.rc cs0) F):=
   step_lone_go (by rfl)
  cases e with
  |normal=>exact⟨.normal,E,K,I,F,z,q,j,.head Z (Steps.trans i (.one M))⟩
  |exit id=>
   have hx:exitTo id (.inScope x::k)=exitTo id k:=by simp[exitTo]
   exact⟨.exit id,E,K,I,F,z,q,j,λk' L=>.head Z (i.1 k' (by grind)),
    λL=>let ⟨T,g1,g2⟩:=i.2 (by grind);⟨T,g1,.head Z g2⟩⟩
  |ret=>exact⟨.ret,E,K,I,F,z,q,j,let ⟨T,M⟩:=i;⟨T,.head Z M⟩⟩
  |panic v=>exact⟨.panic v,E,K,I,F,z,q,j,let ⟨v',t,M,Y⟩:=i;⟨v',t,M,.head Z Y⟩⟩
 |label l=>intro Q n m A a w k _ u C h;exact⟨.normal,A,m,a,w,h,C,u,.one stepR_label⟩
 |exit id=>intro Q n m A a w k _ u C h;exact⟨.exit id,A,m,a,w,h,C,u,λ_ L=>.one (stepR_exit L),λL=>⟨k,L,.refl P _⟩⟩
 |ret=>intro Q n m A a w k _ u C h;exact⟨.ret,A,m,a,w,h,C,u,k,.refl P _⟩
 |_=>simp[dV,wp,qw,bR]
def SW (P:Program) (H:Hints) (c:Code) (Q:Ex->AAct->Prop) (A:AAct):Prop:=
 ∀(M0:Nat->Prop) (S0:Mem) (b:Frame) (cs0:List Frame) (n:Nat) (m:List (Option Nat)) (a:Act) (w:World) (k:List Item),dV H n c=true->Rel P M0 S0 b cs0 m A a w->A.n=n ->
  qw P M0 S0 b cs0 n (lone (b.atR a (.code c::k)) (bR A.rc cs0) w) k Q
def lS(j:eV P){H}{c}{Q}{A}(h:wp P H c Q A):SW P H c Q A:=
 λ_ _ _ _ _ _ _ _ _ hok e i=>B1 j c hok e i h
def vR{H}{c}{Q}{A B}(hw:gU P A B)(h:SW P H c Q B):SW P H c Q A:=
 λM0 S0 b cs0 n m a w k hok i j=>by
  obtain⟨u,q,l⟩:=hw;obtain⟨m',e⟩:=l M0 S0 b cs0 m a w i;have:=h M0 S0 b cs0 n m' a w k hok e (u.trans j);grind
def gP(K:eV P){H}{x y}{Q}{A}(h:wp P H x (fh (SW P H y Q) Q) A):SW P H (.seq x y) Q A:=
 λM0 S0 b cs0 n m a w k D G I=>by
  simp only[dV,eI]at D;obtain⟨e,F,C,E,z,j,u,q,i⟩:=B1 K x (k:=.code y::k) D.1 G I h
  have pass:∀(l:Ex),l≠.normal->Q l F->uI P (Avoid M0 C) (lone (b.atR a (.code x::.code y::k)) (bR A.rc cs0) w) b (.code y::k) (bR F.rc cs0) E z l ->
    qw P M0 S0 b cs0 n (lone (b.atR a (.code (.seq x y)::k)) (bR A.rc cs0) w) k Q:=
   λl J j i=>⟨l,F,C,E,z,j,u,q,.of_steps (.one stepR_seq) (.pass (x:=.code y) rfl J i)⟩
  cases e with
  |normal=>exact(j M0 S0 b cs0 n C E z k D.2 q u).of_steps (.head stepR_seq i)
  |exit id=>exact pass (.exit id) (by simp) j i
  |ret=>exact pass .ret (by simp) j i
  |panic v=>exact pass (.panic v) (by simp) j i
variable {P:Program} {M0:Nat->Prop}
def J2 (P:Program) (M0:Nat->Prop) (S:Mem) (T:TypeId) (v:Value):OR->Prop
 |.val y _=>∃ad v',v=.pointer (some ad)/\(loadVar T ad).run P S.w=.ok v' S.w/\Rep M0 S v' y
 |.stuck=>True
 |_=>False
def J2.opt{S}{T}{e}{v}(h:∀x,v=some x->∃v',(loadVar T e).run P S.w=.ok v' S.w/\Rep M0 S v' x):J2 P M0 S T (.pointer (some e)) (jY S.h v):=by
 cases v with
 |none=>exact trivial
 |some x=>grind[J2,jY]
def So{S}(V:HOk P M0 S){T}{x}{v}(hx:Rep M0 S v x):J2 P M0 S T v (qo P T x S.h):=by
 unfold qo;split
 .rename_i sz xs i o;split
  .rename_i y u;have h:RepP (Avoid M0 S.m) S.w v (.ptr sz xs i o):=hx
   cases h with
   |ptr f J G hM R N=>
    rename_i b off at_;refine J2.opt λz F=>?_;have hi:=(aC.1 u).1;have e:=G y (aB u);have D:jt M0 S (λj=>f (i*sz+j)) (y.cells.map .p):=by
     intro j c E;simp only[cX,bg]at E;obtain⟨q,K,rfl⟩:=E;exact⟨e.2 q (aB K),N i j y q u K⟩
    have L:(y.cells.map AV.p).length=sz:=by simpa using e.1
    exact wv (P:=P) (λj=>f (i*sz+j)) (b:=b) (at_:=at_) (Bg e) D (λj E=>by
     rw[<-R (i*sz+(o+j)) (j3 hi (by omega)),J]
     simp only[lc]) F
  simp[J2]
 .rename_i id Z i o;split
  .rename_i sz xs A;split
   .rename_i M;split
    .rename_i y u;obtain⟨b,O,rfl⟩:=dM hx.2 A M;refine J2.opt λz F=>?_;obtain⟨C,T',U,l,I⟩:=gK V A O;obtain⟨cs,Y,h6,X⟩:=I i y u;have hi:=(aC.1 u).1;exact wv (P:=P) (λj=>C.getD (i*sz+j) undef) (b:=b) (at_:=i*sz+o) Y X (λj E=>by
      rw[lc]
      exact kP U _ (iy (j3 hi (by omega)) l)) F
    simp[J2]
   simp[J2]
  simp[J2]
 simp[J2]
def AV.single:AV->Bool
 |.tuple _=>false
 |_=>true
def Oq (P:Program) (h:Heap) (tmps:Nat->AV):ResultVar->Option AV
 |.tmp t=>some (tmps t)
 |.cell a T=>match qo P T (tmps a) h with|.val v _=>some v|_=>none
def nQ (P:Program) (h:Heap) (tmps:Nat->AV):List ResultVar->Option (List AV)
 |[]=>some []
 |r::rs=>match Oq P h tmps r,nQ P h tmps rs with|some v,some l=>if v.single=true then some (v::l) else none|_,_=>none
def qV:Option (List AV)->Option AV
 |some [v]=>some v
 |some l=>some (s4 l)
 |none=>none
def DQ{S}{v}{x}(hx:x.single=true)(h:Rep M0 S v x):eE M0 S v x:=by
 cases x<;>first|exact h|cases hx
def HH (tmps:Array Value):ResultVar->Sem Value
 |.tmp t=>pure (tmps.getD t undef)
 |.cell a t=>do loadVar t (<-asAddr (tmps.getD a undef))
def MR(fn)(tmps):results fn tmps=(fn.results.mapM (HH tmps) >>= λe=>pure (if h:e.size=1 then e[0] else .tuple e)):=by
 rfl
def JN{S}(z:HOk P M0 S){tmps}{T}(q:∀t,Rep M0 S (tmps.getD t undef) (T t)):∀(rs) (l),nQ P S.h T rs=some l ->
  ∃j,(rs.mapM (HH tmps)).run P S.w=.ok j S.w/\j.length=l.length/\∀(i) (c),l[i]?=some c->Rep M0 S (j.getD i undef) c/\c.single=true
 |[],l,h=>by
  cases h
  simp
 |r::rs,l,h=>by
  unfold nQ at h;split at h
  .rename_i v A e L;split at h
   .rename_i E;cases h;obtain⟨j,K,J,I⟩:=JN z q rs A L;have D:∃v',(HH tmps r).run P S.w=.ok v' S.w/\Rep M0 S v' v:=by
     cases r with
     |tmp t=>cases e;simp_all[HH,Rep]
     |cell a t=>
      unfold Oq at e;dsimp only at e;have u:=So (P:=P) (T:=t) z (q a);split at e
      .rename_i y hh C;cases e;rw[C]at u;obtain⟨R,v',O,N,M⟩:=u;exact⟨v',by simp[HH,O,asAddr,N],M⟩
      .cases e
    obtain⟨v',G,F⟩:=D;refine⟨v'::j,?_,by simp[J],λi c hi=>?_⟩
    .simp_all
    grind
   .cases h
  .cases h
def Kh{S}(G:HOk P M0 S){fn}{tmps}{T}(F:∀t,Rep M0 S (tmps.getD t undef) (T t)){v}(h:qV (nQ P S.h T fn.results.toList)=some v) :
  ∃v',(results fn tmps).run P S.w=.ok v' S.w/\Rep M0 S v' v:=by
 cases q:nQ P S.h T fn.results.toList with
 |none=>rw[q]at h;cases h
 |some l=>
  rw[q]at h;obtain⟨e,J,E,D⟩:=JN G F _ _ q;have j:(results fn tmps).run P S.w=.ok (if h:e.toArray.size=1 then e.toArray[0] else .tuple e.toArray) S.w:=by
   rw[MR,Array.mapM_eq_mapM_toList];simp only[map_eq_pure_bind,Sem.run_bind,Sem.run_pure,Result.andThen,J]
  refine⟨_,j,?_⟩;by_cases C:l.length=1
  .obtain⟨y,rfl⟩:=GT.1 C;have A:e.length=1:=E;obtain⟨u,rfl⟩:=GT.1 A;cases h;simpa using(D 0 _ rfl).1
  .have A:¬e.toArray.size=1:=by simp;omega
   have I:v=s4 l:=by
    cases l with
    |nil=>cases h;rfl
    |cons y l=>cases l with
     |nil=>grind
     |cons z l=>cases h;rfl
   rw[dif_neg A,I];refine Kw ⟨by simp[E],λi c hi=>?_⟩;have:=D i c hi;refine DQ this.2 ?_;simp_all
variable {P:Program} {M0:Nat->Prop}
def cW (P:Program) (rs:List ResultVar) (R:AEnd->Heap->Prop) (tmps:Nat->AV):List ADef->AMode->Heap->Prop
 |[],.ret,h=>match qV (nQ P h tmps rs) with|some v=>R (.ret v) h|none=>False
 |[],.pan v,h=>R (.panic v) h
 |[],.recd _,_=>False
 |.fn f args::ds,u,h=>lk P f args u h λr u' h'=>match r with
   |.ret _=>cW P rs R tmps ds (Ac u') h'
   |.panic v=>u'=.ret/\cW P rs R tmps ds (.pan v) h'
 |.collected id::ds,u,h=>(h[id]?=some .dblock)/\cW P rs R tmps ds u (h.set id .dead)
def Kv{S}{e}{u}(h:kt M0 S e u):e≠.run:=by
 cases u with
 |ret=>rw[show e=_ from h];simp
 |pan v=>obtain⟨v',rfl,_⟩:=h;simp
 |recd v=>obtain⟨v',rfl⟩:=h;simp
def PK{fn}{R}{T}:∀(ds) (u) (S) (fr) (cs),HOk P M0 S ->
  (∀t,Rep M0 S (fr.tmps.getD t undef) (T t))->kt M0 S fr.mode u->DefsRep P M0 S fr.defers ds->P.funcs[fr.fn]?=some fn->cW P fn.results.toList R T ds u S.h ->
  ∃e w' i,uc P M0 S R e w'/\Steps P (lone fr cs S.w) (lone i cs w')/\i.fn=fr.fn/\i.kind=fr.kind/\e≠.outgrown/\i.going P w' e:=by
 intro ds
 induction ds with
 |nil=>
  intro u S fr cs V ht hm I hf h;have a5:fr.defers=[]:=by
   cases C:fr.defers with
   |nil=>rfl
   |cons d l=>rw[C]at I;exact I.elim
  cases u with
  |ret=>
   unfold cW at h
   cases E:qV (nQ P S.h T fn.results.toList) with
   |none=>grind
   |some v=>
    rw[E]at h;obtain⟨v',G,J⟩:=Kh (P:=P) V (fn:=fn) ht E
    exact⟨.returned v',S.w,fr,⟨.ret v,S.h,S.m,h,Ev.refl _ _,V,J⟩,.refl P _,rfl,rfl,by simp,hm,a5,fn,hf,G⟩
  |pan v=>
   obtain⟨v',G,J⟩:=hm
   exact⟨.panicked [{ v:=v',recovered:=false }],S.w,fr,⟨.panic v,S.h,S.m,h,Ev.refl _ _,V,v',rfl,J⟩,.refl P _,rfl,rfl,by simp,G,a5,fn,hf⟩
  |recd v=>exact h.elim
 |cons d ds ih=>
  intro u S fr cs V ht hm I hf h
  cases C:fr.defers with
  |nil=>rw[C]at I;exact I.elim
  |cons d' D=>
   rw[C]at I;have a3:=Kv hm
   have next:∀(u1:AMode) (X:Mem) (K:FrameMode),Ev S.h.length S X->HOk P M0 X->kt M0 X K u1->cW P fn.results.toList R T ds u1 X.h ->
     Steps P (lone fr cs S.w) (lone { { fr with defers:=D } with mode:=K } cs X.w) ->
     ∃e w' i,uc P M0 S R e w'/\Steps P (lone fr cs S.w) (lone i cs w')/\i.fn=fr.fn/\i.kind=fr.kind/\e≠.outgrown/\i.going P w' e:=by
    intro u1 X K y hk b0 hl hs;obtain⟨e,w',i,⟨r,h',m',hR,a8,b3,j⟩,a9,G,J,h3,h4⟩:=ih u1 X { { fr with defers:=D } with mode:=K } cs hk (λt=>y.keep (ht t)) b0 (y.defsRep I.2) hf hl;exact⟨e,w',i,⟨r,h',m',hR,y.trans (a8.mono (y.len (ba _))),b3,j⟩,hs.trans a9,G,J,h3,h4⟩
   cases d with
   |fn g args=>
    obtain⟨⟨fv,cap,b6,a2,rfl,a7,a1⟩,b4⟩:=I;obtain⟨N,a0⟩:=h M0 S.m S.w a2 fr.mode V a1 hm;have G:=step_defer (P:=P) (fr:=fr) (cs:=cs) (w:=S.w) a3 C rfl ((a7 S.w).trans (N S.w));obtain⟨e,A,w',b7,⟨r,u',h',m',hR,y,hk,j,q⟩,z,b1,a4⟩:=a0 { fr with defers:=D } cs rfl
    cases e with
    |outgrown=>exact j.elim
    |returned v'=>
     cases r with
     |panic v=>exact j.elim
     |ret v=>
      have J:=step_going_returned (c:={ { fr with defers:=D } with mode:=A }) (cs:=cs) b1 a4;have a6:kt M0 ⟨m',h',w'⟩ (settle A) (Ac u'):=by
       cases u' with
       |ret=>rw[show A=_ from q];rfl
       |pan v2=>
        obtain⟨v3,rfl,h3⟩:=q
        exact⟨v3,by simp[settle],h3⟩
       |recd v2=>
        obtain⟨v3,rfl⟩:=q;rfl
      exact next (Ac u') ⟨m',h',w'⟩ (settle A) y hk a6 hR (.head G (Steps.trans z (.one J)))
    |panicked ch=>
     cases r with
     |ret v=>exact j.elim
     |panic v=>
      obtain⟨v',rfl,hv⟩:=j;obtain⟨rfl,hR⟩:=hR;have J:=step_going_panicked (c:={ { fr with defers:=D } with mode:=A }) (cs:=cs) a4;have M:A=.returning:=q;subst M
      exact next (.pan v) ⟨m',h',w'⟩ (.panicking [{ v:=v',recovered:=false }]) y hk ⟨v',rfl,hv⟩ hR (.head G (Steps.trans z (.one J)))
   |collected id=>
    obtain⟨⟨bl,rfl,b5⟩,b4⟩:=I;obtain⟨Y,hl⟩:=h;have L:S.m.getD id none=some bl:=by
     rcases b5 with F|⟨_,L⟩
     .grind
     .exact L
    obtain⟨b8,U,hx⟩:=V.obj id _ Y;rw[L]at U;cases U;have Z:=run_takeDeferred (P:=P) (w:=S.w) hx;have G:=step_collected (P:=P) (fr:=fr) (cs:=cs) a3 C rfl Z;obtain⟨b2,O⟩:=lq V (o:=.dead) (ob:=.deferred none) L Y hx (El hx) (by simp) (.inl rfl) (λ_ _=>trivial);refine next u ⟨S.m,S.h.set id .dead,S.w.putObj bl (.deferred none)⟩ fr.mode O b2 (O.mode hm) hl (.one ?_);simpa using G
def Om (l:List AV) (t:Nat):AV:=match l[t]? with|some v=>v|none=>.p (.tuple [])
def start (n:Nat) (rc:Rc) (args:List AV) (h:Heap):AAct:={ n:=n,bs:=h.length,rc:=rc,tmps:=Om args,h:=h,df:=[] }
def Yc (P:Program) (rs:List ResultVar) (R:AEnd->Heap->Prop):Ex->AAct->Prop
 |.normal,A=>cW P rs R A.tmps A.df .ret A.h
 |.ret,A=>cW P rs R A.tmps A.df .ret A.h
 |.panic v,A=>cW P rs R A.tmps A.df (.pan v) A.h
 |.exit _,_=>False
def E0{h:Heap}{m:List (Option Nat)}{w:World}{args:List AV}{e:Array Value}{n:Nat}{rc:Rc}{b:Frame}{cs0:List Frame}(y:HOk P M0 ⟨m,h,w⟩)(j:eD (Rep M0 ⟨m,h,w⟩) e args)(F:args.length<=n)
  (l:RcRep M0 ⟨m,h,w⟩ b cs0 rc) (q:∃f,P.funcs[b.fn]?=some f):Rel P M0 ⟨m,h,w⟩ b cs0 m (start n rc args h) { tmps:=e++Array.replicate (n-e.size) undef,defers:=[] } w where
 size:=by have:=j.1;simp[start];omega
 tmps:=λt=>by
  show Rep M0 _ _ (Om args t);unfold Om;have C:=j.1;split
  .rename_i v i;have D:=(aC.1 i).1;have A:=j.2 t v i;rw[ku,Array.getElem?_append_left (by omega)];rwa [ku]at A
  .rename_i i;have E:args.length<=t:=by simpa using i
   have:(e++Array.replicate (n-e.size) undef).getD t undef=undef:=by
    rw[ku,Array.getElem?_append_right (by omega)]
    cases u:(Array.replicate (n-e.size) undef)[t-e.size]? with
    |none=>rfl
    |some z=>
     grind
   rw[this];exact rB _ _
 hok:=y
 ev:=Ev.refl _ _
 le:=⟨ba _,q⟩
 df:=trivial
 rc:=l
def Jq(hD:eV P){H}{fn}{c}{S}{b}{cs0}{A}{a}{R:Rc->AEnd->Heap->Prop}(hok:dV H A.n c=true)(Y:Rel P M0 S b cs0 S.m A a S.w)
  (U:A.bs=S.h.length) (hf:P.funcs[b.fn]?=some fn) (E:b.roundOf=none) (h:SW P H c (λe B=>B.bs=A.bs/\Yc P fn.results.toList (R B.rc) e B) A) :
  ∃e w' i l,uc P M0 S (R l) e w'/\Steps P (lone (b.atR a [.code c]) (bR A.rc cs0) S.w) (lone i (bR l cs0) w')/\i.fn=b.fn/\i.kind=b.kind/\e≠.outgrown/\i.going P w' e /\
   ∃N,RcRep M0 N b cs0 l:=by
 obtain⟨e,q,L,V,C,⟨J,M⟩,a0,y,z⟩:=h M0 S b cs0 _ S.m a S.w [] hok Y rfl;have F:Ev S.h.length S ⟨L,q.h,C⟩:=by have:=y.ev;rwa [J,U]at this
 have out:∀(K:FrameMode) (u:AMode) (j:List Item),kt M0 ⟨L,q.h,C⟩ K u->cW P fn.results.toList (R q.rc) q.tmps q.df u q.h ->
   Steps P (lone (b.atR a [.code c]) (bR A.rc cs0) S.w) (lone { b.atR V j with mode:=K } (bR q.rc cs0) C) ->
   ∃e w' i l,uc P M0 S (R l) e w'/\Steps P (lone (b.atR a [.code c]) (bR A.rc cs0) S.w) (lone i (bR l cs0) w')/\i.fn=b.fn/\i.kind=b.kind/\e≠.outgrown/\i.going P w' e /\
    ∃N:Mem,RcRep M0 N b cs0 l:=by
  intro K u j Z hl D;obtain⟨e,w',i,⟨r,h',m',hR,G,T,I⟩,O,h1,h2,h3,h4⟩:=PK q.df u ⟨L,q.h,C⟩ { b.atR V j with mode:=K } (bR q.rc cs0) y.hok y.tmps Z y.df hf hl;exact⟨e,w',i,q.rc,⟨r,h',m',hR,F.trans (G.mono (F.len (ba _))),T,I⟩,D.trans O,h1,h2,h3,h4,⟨L,q.h,C⟩,y.rc⟩
 cases e with
 |normal=>exact out .returning .ret [] rfl M (Steps.trans z (.one (stepR_end E)))
 |ret=>
  obtain⟨k₁,D⟩:=z
  exact out .returning .ret _ rfl M (Steps.trans D (.one (stepR_ret E)))
 |exit id=>exact M.elim
 |panic v=>
  obtain⟨v',j,X,D⟩:=z;exact out (.panicking [{ v:=v',recovered:=false }]) (.pan v) j ⟨v',rfl,X⟩ M D
def j7 (P:Program) (rs:List ResultVar) (n:Nat) (R:Rc->AEnd->Heap->Prop):Ex->AAct->Prop:=λe B=>B.bs=n/\Yc P rs (R B.rc) e B
def cu (H:Hints) (fn:Func):Bool:=
 match fn.body with
 |some c=>dV H fn.ntmps c&&fn.name != "runtime.NumGoroutine"
 |none=>false
def kM{f}{fn}{H}(i:P.funcs[f]?=some fn)(hok:cu H fn=true)(e)(w):(callFunc f e).run P w=.ok (.enter f e) w:=by
 unfold cu at hok;split at hok
 .rename_i c j;simp only[eI,bne_iff_ne]at hok;simp[callFunc,program,Sem.run,Result.andThen,i,j,hok.2]
 .cases hok
def IS{f}{fn}{c}{e}{kind}(i:P.funcs[f]?=some fn)(j:fn.body=some c) :
  Frame.enter P f e kind=({ (default:Frame) with fn:=f,kind:=kind }).atR { tmps:=e++Array.replicate (fn.ntmps-e.size) undef,defers:=[] } [.code c]:=by
 simp[Frame.enter,Frame.atR,i,j];rfl
def Gv{fr:Frame}{w}{e}(i:fr.kind=.normal)(h:fr.going P w e):fr.leaving P w e:=by
 cases e with
 |returned v=>exact⟨h.1,h.2.1,i,h.2.2⟩
 |panicked j=>exact h
 |outgrown=>exact h
def uZ(I:eV P){H}{f}{fn}{c}{args}{h}{R}{rs}{n}(u:P.funcs[f]?=some fn)(D:fn.body=some c)(z:fn.results.toList=rs)(E:fn.ntmps=n)(hok:cu H fn=true)
  (q:args.length<=n) (hw:SW P H c (j7 P rs h.length (λ_=>R)) (start n .no args h)):aw P f args h R:=by
 subst z E;intro M0 m w i G F;refine⟨kM u hok i,λcs=>?_⟩;have l:dV H fn.ntmps c=true:=by
  unfold cu at hok;rw[D]at hok;simp only[eI]at hok;exact hok.1
 obtain⟨e,w',C,j,J,y,N,M,L,K,_⟩:=Jq I (S:=⟨m,h,w⟩) (b:={ (default:Frame) with fn:=f,kind:=.normal }) (cs0:=cs) (R:=λ_=>R) l
  (E0 (rc:=.no) G F q rfl ⟨_,u⟩) rfl u rfl hw
 rw[IS u D];have A:bR j cs=cs:=by
  rename_i hx;obtain⟨T,hx⟩:=hx
  cases j with
  |got v=>exact absurd hx.2.1 (by simp)
  |_=>rfl
 rw[A]at y;refine⟨e,w',C,J,?_,N,Gv M K⟩
 cases e with
 |outgrown=>grind
 |returned v=>exact y
 |panicked O=>exact y
def kW(j:eV P){H}{f}{fn}{c}{args}{h}{R}{rs}{n}(q:P.funcs[f]?=some fn)(u:fn.body=some c)(i:fn.results.toList=rs)(l:fn.ntmps=n)(hok:cu H fn=true)
  (e:args.length<=n) (hw:wp P H c (j7 P rs h.length (λ_=>R)) (start n .no args h)):aw P f args h R:=
 uZ j q u i l hok e (lS j hw)
def pS:AMode->Rc
 |.pan v=>.pend v
 |_=>.none
def j0 (u:AMode):Rc->AMode
 |.got _=>match u with|.pan v=>.recd v|u=>u
 |_=>u
def Bd{S:Mem}{c:Frame}{cs:List Frame}{u:AMode}(h:kt M0 S c.mode u) :
  match u with
  |.pan v=>∃v',RepP (Avoid M0 S.m) S.w v' v/\recoverD (c::cs)=some (v',{ c with mode:=.panicking [{ v:=v',recovered:=true }] }::cs)
  |_=>recoverD (c::cs)=none:=by
 cases u with
 |ret=>have h':c.mode=.returning:=h;simp[recoverD,h']
 |pan v=>
  obtain⟨v',e,i⟩:=h
  exact⟨v',i,by simp[recoverD,e]⟩
 |recd v=>
  obtain⟨v',e⟩:=h;simp[recoverD,e]
def KL(V:eV P){H}{f}{fn}{c}{args}{u}{h}{R}{rs}{n}(I:P.funcs[f]?=some fn)(U:fn.body=some c)(K:fn.results.toList=rs)(Z:fn.ntmps=n)(hok:cu H fn=true)
  (D:args.length<=n) (hw:wp P H c (j7 P rs h.length (λrc r h'=>R r (j0 u rc) h')) (start n (pS u) args h)):lk P f args u h R:=by
 subst K Z;intro M0 m w y um hS ha T;refine⟨kM I hok y,λc0 cs M=>?_⟩;have C:dV H fn.ntmps c=true:=by
  unfold cu at hok;rw[U]at hok;simp only[eI]at hok;exact hok.1
 subst M;have i:=Bd (cs:=cs) T;have L:RcRep M0 ⟨m,h,w⟩ ({ (default:Frame) with fn:=f,kind:=.deferred }) (c0::cs) (pS u):=by
  cases u with
  |ret=>exact⟨rfl,rfl,i⟩
  |recd v=>exact⟨rfl,rfl,i⟩
  |pan v=>
   obtain⟨v',Y,J⟩:=i;exact⟨rfl,rfl,v',_,J,Y⟩
 obtain⟨e,w',N,l,⟨r,h',m',hR,A,hk,E⟩,G,Y,J,h3,h4,S',hx⟩:=Jq V (S:=⟨m,h,w⟩) (b:={ (default:Frame) with fn:=f,kind:=.deferred }) (cs0:=c0::cs) (R:=λrc r h'=>R r (j0 u rc) h') C
  (E0 (rc:=pS u) hS ha D L ⟨_,I⟩) rfl I rfl (lS V hw)
 rw[IS I U];have F:bR (start fn.ntmps (pS u) args h).rc (c0::cs)=c0::cs:=by cases u<;>rfl
 rw[F]at G;have q:∃j:FrameMode,bR l (c0::cs)={ c0 with mode:=j }::cs/\kt M0 ⟨m',h',w'⟩ j (j0 u l):=by
  have same:bR l (c0::cs)=c0::cs->j0 u l=u->∃j:FrameMode,bR l (c0::cs)={ c0 with mode:=j }::cs/\kt M0 ⟨m',h',w'⟩ j (j0 u l):=by
   intro e1 e2;exact⟨c0.mode,by rw[e1],by rw[e2];exact A.mode T⟩
  cases l with
  |got v=>
   obtain⟨_,_,v',a0,z⟩:=hx
   cases u with
   |ret=>grind
   |recd v2=>grind
   |pan v2=>
    grind[bR,kt,j0]
  |_=>exact same rfl rfl
 obtain⟨j,z,X⟩:=q;rw[z]at G;refine⟨e,j,w',N,⟨r,_,h',m',hR,A,hk,E,X⟩,?_,J,h4⟩
 cases e with
 |outgrown=>grind
 |returned v=>exact G
 |panicked ch=>exact G
def iX (tmps:Nat->AV):List Tmp->List AV->Nat->AV
 |p::ps,x::xs=>iX (xW tmps p x) ps xs
 |_,_=>tmps
def qH (n:Nat) (ps:Array Tmp):Bool:=ps.toList.all λp=>decide (p<n)
def vj (n:Nat) (tmps:Nat->AV) (ps:Array Tmp) (assign body:Code) (l bs:Nat) (R:AEnd->Heap->Prop):Ex->AAct->Prop
 |.normal,A=>A.bs=bs/\(∃st pend,A.h[l]?=some (.loop n tmps ps assign body st pend))/\R (.ret (.p (.bool true))) (A.h.set l (.loop n tmps ps assign body .ready none))
 |.exit id,A=>A.bs=bs/\(∃st pend,A.h[l]?=some (.loop n tmps ps assign body st pend))/\R (.ret (.p (.bool false))) (A.h.set l (.loop n tmps ps assign body .done (some (.exit id))))
 |.ret,A=>A.bs=bs/\(∃st pend,A.h[l]?=some (.loop n tmps ps assign body st pend))/\R (.ret (.p (.bool false))) (A.h.set l (.loop n tmps ps assign body .done (some .ret)))
 |.panic v,A=>A.bs=bs/\A.df=[]/\R (.panic v) A.h
def Me (n:Nat) (tmps:Nat->AV) (ps:Array Tmp) (assign body:Code) (l bs:Nat) (K:AAct->Prop):Ex->AAct->Prop
 |.normal,A=>A.bs=bs/\A.h[l]?=some (.loop n tmps ps assign body .ready none)/\K { A with h:=A.h.set l (.loop n tmps ps assign body .busy none) }
 |_,_=>False
variable {P:Program} {M0:Nat->Prop}
def Mem.nil (S:Mem) (sz:Nat):Mem:=⟨S.m++[none],S.h++[.row sz []],S.w⟩
def Ev.nil{S:Mem}(j:HOk P M0 S)(sz:Nat):Ev S.h.length S (S.nil sz) where
 fr:=Fr.refl _ _
 sub:=λb h=>by
  have h':some b∈S.m++[none]:=h;grind[Own]
 obj:=λid o e i=>by
  refine⟨o,?_,?_⟩
  .grind[Mem.nil]
  .have:(S.nil sz).m.getD id none=S.m.getD id none:=by
    show (S.m++[none]).getD id none=_;have:=j.len;simp[bJ (show id<S.m.length by omega)]
   rw[this];exact ObjEv.refl _ _
def Av{S:Mem}(l:HOk P M0 S)(sz:Nat):HOk P M0 (S.nil sz) where
 gl:=(Ev.nil l sz).glob l.gl
 len:=by simp[Mem.nil,l.len]
 lt:=λb h=>by
  have h':some b∈S.m++[none]:=h;simp at h';exact l.lt b h'
 m0:=λb h=>⟨(l.m0 b h).1,λz=>by
  have h':some b∈S.m++[none]:=z;simp at h'
  exact(l.m0 b h).2 h'⟩
 inj:=λi j b hi A=>by
  have u:∀k:Nat,(S.m++[none])[k]?=some (some b)->S.m[k]?=some (some b):=by
   intro k q;rcases dO k S.m.length with h|h
   .grind
   .grind
  exact l.inj i j b (u i hi) (u j A)
 obj:=λid o y=>by
  have e:(S.h++[AObj.row sz []])[id]?=some o:=y;rcases dO id S.h.length with h|h
  .rw[bJ h]at e;have v:(S.nil sz).m.getD id none=S.m.getD id none:=by
    show (S.m++[none]).getD id none=_;have:=l.len;simp[bJ (show id<S.m.length by omega)]
   rw[v];exact(l.obj id o e).keep (Ev.nil l sz) λ_ _=>rfl
  .rw[dB h]at e
   cases hx:id-S.h.length with
   |succ x=>grind
   |zero=>
    rw[hx]at e;simp at e;subst e;have v:(S.nil sz).m.getD id none=none:=by
     show (S.m++[none]).getD id none=_;have:=l.len;rw[da,dB (by omega),show id-S.m.length=0 by omega];rfl
    grind[ObjOk,Mem.nil]
def Rel.resv{q}{b}{cs0}{a}{w}:∀(l:List Nat) {m} {A},Rel P M0 q b cs0 m A a w->∃m',Rel P M0 q b cs0 m' { A with h:=A.h++l.map λsz=>.row sz [] } a w
 |[],m,A,e=>⟨m,by simpa using e⟩
 |sz::l,m,A,e=>by
  have u:=Av (S:=⟨m,A.h,w⟩) e.hok sz;have j:=Ev.nil (S:=⟨m,A.h,w⟩) e.hok sz;have i:=e.ahead (m':=m++[none]) (h':=A.h++[.row sz []]) (w':=w) j u;obtain⟨m',h⟩:=Rel.resv l i;grind
def Cf{S}(F:HOk P M0 S){id sz}(q:S.h[id]?=some (.row sz [])){T}{x}{v}{cs}(hx:Rep M0 S v x)(D:x.cells=some cs)(C:cs.length=sz) :
  aU P M0 S (do pure (.pointer (some (<-newVar T v)))) (.val (.ptr id 1 0 0) (S.h.set id (.row sz [x]))):=by
 obtain⟨G,A⟩:=kB hx D;have E:=(aC.1 q).1;have e:=Ev.regrow S.h.length (ob:=.cells v.cells T) (xs':=[x]) q (by simp);have J:eO M0 (S.regrow id (.row sz [x]) (.cells v.cells T)) sz v.cells [x]:=by
  intro i y l
  cases i with
  |zero=>
   simp at l;subst l
   exact⟨cs,D,C,λj c u=>⟨(A j c u).1,by simpa using e.keepS (A j c u).2⟩⟩
  |succ i=>simp at l
 have z:eO M0 S sz v.cells [x]:=by
  intro i y l
  cases i with
  |zero=>
   simp at l;subst l
   exact⟨cs,D,C,λj c u=>⟨(A j c u).1,by simpa using(A j c u).2⟩⟩
  |succ i=>simp at l
 have I:=HOk.regrow (T:=T) F q (xs':=[x]) (by simp) (by simp[G,C]) z;refine⟨S.regrow id (.row sz [x]) (.cells v.cells T),.pointer (some ⟨S.w.heap.size,0,none⟩),rfl,?_,e,I,⟨_,rfl⟩,.inr ⟨sz,[x],?_,by simp,λ_=>⟨S.w.heap.size,?_,by simp⟩⟩⟩
 .rfl
 .simp[Mem.regrow,E]
 .have:=F.len;grind[Mem.regrow]
def UY{S}(D:HOk P M0 S){id sz}(u:S.h[id]?=some (.row sz [])){o}{e}{ρ}(I:∀x,Rep M0 S (ρ x) (e x)){z}(j:je P e o.op=some z)
  (l:z.cells.map (·.length)=some sz):xB P M0 S (execOp ρ o) (.val (.ptr id 1 0 0) (S.h.set id (.row sz [z]))):=by
 simp only[bg]at l;obtain⟨cs,C,l⟩:=l;unfold je at j;split at j
 .rename_i T i;simp only[bg]at j;obtain⟨q,G,rfl⟩:=j;unfold execOp;rw[i];dsimp only;obtain⟨v,F,A⟩:=lQ G S.w;have y:Rep M0 S v (.p q):=iS A;obtain⟨L,v',K,E,J⟩:=Cf (P:=P) D u (T:=T) y C l;refine aU.op (r:=.val _ _) ⟨L,v',K,?_,J⟩;simp only[Sem.run_bind]at E;unfold Instr.alloc;simp_all
 .rename_i T x i;cases j;unfold execOp;rw[i];dsimp only;exact(Cf D u (I x) C l).op
 .cases j
def Ks{G}{b}{cs0}{m}{A}{a}{w}{o}{i}{rest}{ops}{k}{v}{h'}
  (E:ops[i]?=some o) (I:qd A.n o=true) (hw:Region.wanted o (yielded ops a.tmps)=true) (D:Rel P M0 G b cs0 m A a w) (y:∀c,o.op≠.defer c) (hok:xB P M0 ⟨m,A.h,w⟩ (execOp a.eval o) (.val v h')) :
  ∃m' j w',Rel P M0 G b cs0 m' (A.put o.dst v h') j w'/\Steps P (lone (b.atR a (.inRegion ops (i::rest)::k)) (bR A.rc cs0) w) (lone (b.atR j (.inRegion ops rest::k)) (bR A.rc cs0) w'):=by
 have u:∀(j:Act) v,(b.atR j (.inRegion ops (i::rest)::k)).finish v=b.atR (j.put o.dst v) (.inRegion ops rest::k):=by
  intro j v;rw[Frame.finish_atR,E];rfl
 have F:=stepGR_op (P:=P) (b:=b) (k:=k) (cs:=bR A.rc cs0) (w:=w) (rest:=rest) E hw;obtain⟨⟨m',J,w'⟩,v',rfl,e,C,z,q⟩:=hok;rw[D.semAt (.inl y)]at F;have l:=(D.ahead C z).put (dst:=o.dst) (oK I) q;rw[<-tC]at l;refine⟨m',_,w',l,?_⟩;rw[<-u];exact .one (step_lone_go (by rw[F];simp only at e;simp[stepG.apply,e]))
end Abs
end Go.Proofs.YtgafommgcfhkkaaGreatDoor
