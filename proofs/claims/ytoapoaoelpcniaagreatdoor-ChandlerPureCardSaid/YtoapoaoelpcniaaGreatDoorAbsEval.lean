/- THE WALK OF THE ABSTRACT MACHINE BY REWRITING: what is not to be looked into stands in pla -/
import Derived.Test.YtoapoaoelpcniaaGreatDoorAbsDraw
set_option linter.all false
namespace Go.Proofs.YtoapoaoelpcniaaGreatDoor
namespace Abs
class Bx (α:Type) where
 val:α
abbrev Cont:=Ex->AAct->Prop
structure CodeK where
 P:Program
 H:Hints
 c:Code
 Q:Cont
structure OpsK where
 P:Program
 H:Hints
 ops:Array Oper
 rest:List Oper
 Q:Cont
structure OpK where
 P:Program
 H:Hints
 ops:Array Oper
 rest:List Oper
 Q:Cont
 dst:Option Tmp
structure DrK where
 P:Program
 H:Hints
 ops:Array Oper
 rest:List Oper
 Q:Cont
structure DOpK where
 P:Program
 H:Hints
 ops:Array Oper
 rest:List Oper
 Q:Cont
 op:Oper
def W [k:Bx CodeK] (A:AAct):Prop:=wp k.val.P k.val.H k.val.c k.val.Q A
def WO [k:Bx OpsK] (A:AAct):Prop:=i7 k.val.P k.val.H k.val.ops k.val.Q k.val.rest A
def WQ [k:Bx Cont] (e:Ex) (A:AAct):Prop:=k.val e A
def WR [k:Bx OpK] (A:AAct) (r:OR):Prop:=lz k.val.P A k.val.dst (i7 k.val.P k.val.H k.val.ops k.val.Q k.val.rest) k.val.Q r
def WB [k:Bx ((Unit->Prop)×(Unit->Prop))] (b:Bool):Prop:=H' b k.val.1 k.val.2
def WN [k:Bx ((Unit->Prop)×(Unit->Prop))] (b:Option Bool):Prop:=tf k.val.1 k.val.2 b
def WC [k:Bx ((Unit->Prop)×(Unit->Prop))] (v:AV):Prop:=Fi k.val.1 k.val.2 v
def WF [k:Bx OpK] (A:AAct) (f:FuncId) (args:List AV):Prop:=lz k.val.P A k.val.dst (i7 k.val.P k.val.H k.val.ops k.val.Q k.val.rest) k.val.Q (.call f args)
def WD [k:Bx DrK] (hs:Heap) (A:AAct):Prop:=bR k.val.P k.val.H k.val.ops k.val.Q k.val.rest hs A
def qM [k:Bx DOpK] (hs:Heap) (A:AAct) (d:DC):Prop:=
 VO (λ_=>lz k.val.P A k.val.op.dst (λB=>bR k.val.P k.val.H k.val.ops k.val.Q k.val.rest B.h B) k.val.Q (b8 k.val.P (aS k.val.H) k.val.op A.eval A.h))
   (λ_=>C4 A.h (λv h=>bR k.val.P k.val.H k.val.ops k.val.Q k.val.rest hs (A.put k.val.op.dst v h)) (b8 k.val.P (aS k.val.H) k.val.op A.eval A.h))
   (λ_=>y0 k.val.P A.h (λv=>bR k.val.P k.val.H k.val.ops k.val.Q k.val.rest hs (A.put k.val.op.dst v A.h)) (b8 k.val.P (aS k.val.H) k.val.op A.eval A.h))
   (λ_=>y0 k.val.P hs (λv=>bR k.val.P k.val.H k.val.ops k.val.Q k.val.rest hs (A.put k.val.op.dst v A.h)) (b8 k.val.P (aS k.val.H) k.val.op A.eval hs))
   (λj sz=>tj hs A.h j sz (λv h=>bR k.val.P k.val.H k.val.ops k.val.Q k.val.rest hs (A.put k.val.op.dst v h)) (g9 k.val.P A.eval k.val.op.op))
   (λ_=>wO k.val.P hs A.h A.eval (λh=>bR k.val.P k.val.H k.val.ops k.val.Q k.val.rest hs (A.put k.val.op.dst (.p (.tuple [])) h)) k.val.op.op)
   (λ_=>xi k.val.P A.h A.eval (bR k.val.P k.val.H k.val.ops k.val.Q k.val.rest hs (A.put k.val.op.dst (.p (.tuple [])) A.h)) k.val.op.op)
   (λ_=>Al hs A.h (λv h=>bR k.val.P k.val.H k.val.ops k.val.Q k.val.rest hs (A.put k.val.op.dst v h)) (b8 k.val.P (aS k.val.H) k.val.op A.eval A.h))
   (λ_=>zD k.val.P k.val.Q A (λv=>bR k.val.P k.val.H k.val.ops k.val.Q k.val.rest hs (A.put k.val.op.dst v A.h)) (b8 k.val.P (aS k.val.H) k.val.op A.eval A.h))
   (λ_=>sK k.val.P k.val.H k.val.Q hs A (λv h=>bR k.val.P k.val.H k.val.ops k.val.Q k.val.rest hs (A.put k.val.op.dst v h)) (b8 k.val.P (aS k.val.H) k.val.op A.eval A.h))
   d
def Yf [k:Bx DOpK] (hs:Heap) (A:AAct) (j sz:Nat) (z:Option AV):Prop:=tj hs A.h j sz (λv h=>bR k.val.P k.val.H k.val.ops k.val.Q k.val.rest hs (A.put k.val.op.dst v h)) z
def Yi [k:Bx DOpK] (hs:Heap) (A:AAct) (T:TypeId) (a y:AV):Prop:=
 match a with
 |.ptr id ver i o=>iX hs id=true/\rq (λh=>bR k.val.P k.val.H k.val.ops k.val.Q k.val.rest hs (A.put k.val.op.dst (.p (.tuple [])) h)) (gX k.val.P T (.ptr id ver i o) y A.h)
 |_=>False
def Ye [k:Bx DOpK] (hs:Heap) (A:AAct) (r:OR):Prop:=rq (λh=>bR k.val.P k.val.H k.val.ops k.val.Q k.val.rest hs (A.put k.val.op.dst (.p (.tuple [])) h)) r
def O1 [k:Bx DOpK] (A:AAct) (r:OR):Prop:=lz k.val.P A k.val.op.dst (λB=>bR k.val.P k.val.H k.val.ops k.val.Q k.val.rest B.h B) k.val.Q r
def Yj [k:Bx DOpK] (hs:Heap) (A:AAct) (r:OR):Prop:=C4 A.h (λv h=>bR k.val.P k.val.H k.val.ops k.val.Q k.val.rest hs (A.put k.val.op.dst v h)) r
def Yg [k:Bx DOpK] (hs:Heap) (A:AAct) (r:OR):Prop:=Al hs A.h (λv h=>bR k.val.P k.val.H k.val.ops k.val.Q k.val.rest hs (A.put k.val.op.dst v h)) r
def OX [k:Bx DOpK] (hs:Heap) (A:AAct) (r:OR):Prop:=zD k.val.P k.val.Q A (λv=>bR k.val.P k.val.H k.val.ops k.val.Q k.val.rest hs (A.put k.val.op.dst v A.h)) r
def HU [k:Bx DOpK] (hs h0:Heap) (A:AAct) (r:OR):Prop:=y0 k.val.P h0 (λv=>bR k.val.P k.val.H k.val.ops k.val.Q k.val.rest hs (A.put k.val.op.dst v A.h)) r
def Yh [k:Bx DOpK] (hs:Heap) (A:AAct) (r:OR):Prop:=sK k.val.P k.val.H k.val.Q hs A (λv h=>bR k.val.P k.val.H k.val.ops k.val.Q k.val.rest hs (A.put k.val.op.dst v h)) r
def H0:Hints:=λ_=>.std
def ec:List (Nat×Hint)->Hints
 |[],_=>.std
 |(k,h)::l,t=>if t=k then h else ec l t
theorem NX(t):ec [] t=.std:=rfl
theorem LG(k)(h)(l)(t):ec ((k,h)::l) t=if t=k then h else ec l t:=rfl
section
variable (P:Program) (H:Hints) (Q:Cont) (A:AAct)
theorem Ya(c):wp P H c Q A=@W ⟨P,H,c,Q⟩ A:=propext Iff.rfl
theorem Ww:@W ⟨P,H,.skip,Q⟩ A=@WQ ⟨Q⟩ .normal A:=propext Iff.rfl
theorem Ro(i)(l):@W ⟨P,H,.region i ⟨l⟩ false,Q⟩ A=@WO ⟨P,H,⟨l⟩,l,Q⟩ A:=propext Iff.rfl
theorem Ko(i)(l):@W ⟨P,H,.region i ⟨l⟩ true,Q⟩ A=@WD ⟨P,H,⟨l⟩,zP H l,Q⟩ (oU H l A) (rH H l A):=propext Iff.rfl
def JV:Hint->Bool
 |.slot _ _=>true
 |_=>false
theorem aL(i)(l)(h:JV (H 5000000)=false):@W ⟨P,H,.region i ⟨l⟩ true,Q⟩ A=@WD ⟨P,H,⟨l⟩,l,Q⟩ (oU H l A) (rH H l A):=by
 have e:zP H l=l:=by
  unfold zP;cases hh:H 5000000<;>rw[hh]at h<;>first|rfl|cases h
 rw[Ko,e]
theorem Af{o}:(∀j sz,bT H0 o≠.slot j sz)/\bT H0 o≠.sto/\∀t,bT H0 o≠.app t:=by
 have h0:∀op,u7 H0 op=.bar:=by
  intro op;unfold u7;split
  .rfl
  .rfl
 unfold bT;split
 .rw[h0];exact⟨λj sz=>by simp,by simp,λt=>by simp⟩
 .show (∀j sz,(if qy o.op=true then DC.alloc else if fa o.op=true then .quiet else .bar)≠.slot j sz)/\(if qy o.op=true then DC.alloc else if fa o.op=true then .quiet else .bar)≠.sto/\∀t,(if qy o.op=true then DC.alloc else if fa o.op=true then .quiet else .bar)≠.app t;split
  .exact⟨λj sz=>by simp,by simp,λt=>by simp⟩
  .split
   .exact⟨λj sz=>by simp,by simp,λt=>by simp⟩
   .exact⟨λj sz=>by simp,by simp,λt=>by simp⟩
theorem Du:∀l,tm H0 l=[]
 |[]=>rfl
 |o::l=>by
  unfold tm;split
  .rename_i j sz h;exact absurd h (Af.1 j sz)
  .exact Du l
theorem AF(T):∀l,n9 H0 T l=[]
 |[]=>rfl
 |o::l=>by
  unfold n9;split
  .rename_i h _;exact absurd h Af.2.1
  .rename_i h;exact absurd h (Af.2.2 _)
  .exact AF T l
theorem WA(i)(l):@W ⟨P,H0,.region i ⟨l⟩ true,Q⟩ A=@WD ⟨P,H0,⟨l⟩,l,Q⟩ A.h A:=by
 rw[aL _ _ _ _ _ _ rfl];unfold oU rH yu;rw[Du,AF];simp[vF,Li,H0]
theorem X8(a b):@W ⟨P,H,.seq a b,Q⟩ A=@W ⟨P,H,a,ep (wp P H b Q) Q⟩ A:=propext Iff.rfl
theorem WE(c)(x y):@W ⟨P,H,.cond c x y,Q⟩ A=@WC ⟨λ_=>wp P H x Q A,λ_=>wp P H y Q A⟩ (A.eval c):=propext Iff.rfl
theorem Uj(id)(b):@W ⟨P,H,.block id b,Q⟩ A=@W ⟨P,H,b,kp id Q⟩ A:=propext Iff.rfl
theorem Ue(b):@W ⟨P,H,.scope b,Q⟩ A=@W ⟨P,H,b,Q⟩ A:=propext Iff.rfl
theorem Ug(l):@W ⟨P,H,.label l,Q⟩ A=@WQ ⟨Q⟩ .normal A:=propext Iff.rfl
theorem Wz(id):@W ⟨P,H,.exit id,Q⟩ A=@WQ ⟨Q⟩ (.exit id) A:=propext Iff.rfl
theorem X9:@W ⟨P,H,.ret,Q⟩ A=@WQ ⟨Q⟩ .ret A:=propext Iff.rfl
theorem ES(b)(R):@WQ ⟨ep (wp P H b Q) R⟩ .normal A=@W ⟨P,H,b,Q⟩ A:=propext Iff.rfl
theorem Jn(K)(j):@WQ ⟨ep K Q⟩ (.exit j) A=@WQ ⟨Q⟩ (.exit j) A:=propext Iff.rfl
theorem Mm(K):@WQ ⟨ep K Q⟩ .ret A=@WQ ⟨Q⟩ .ret A:=propext Iff.rfl
theorem HQ(K)(v):@WQ ⟨ep K Q⟩ (.panic v) A=@WQ ⟨Q⟩ (.panic v) A:=propext Iff.rfl
theorem BY(id):@WQ ⟨kp id Q⟩ .normal A=@WQ ⟨Q⟩ .normal A:=propext Iff.rfl
theorem EW(id j):@WQ ⟨kp id Q⟩ (.exit j) A=if j=id then @WQ ⟨Q⟩ .normal A else @WQ ⟨Q⟩ (.exit j) A:=propext Iff.rfl
theorem HT(id):@WQ ⟨kp id Q⟩ .ret A=@WQ ⟨Q⟩ .ret A:=propext Iff.rfl
theorem Da(id)(v):@WQ ⟨kp id Q⟩ (.panic v) A=@WQ ⟨Q⟩ (.panic v) A:=propext Iff.rfl
theorem WI(ops):@WO ⟨P,H,ops,[],Q⟩ A=@WQ ⟨Q⟩ .normal A:=propext Iff.rfl
theorem jJ(X Y):H' true X Y=X ():=propext ⟨λh=>h.1 rfl,λh=>⟨λ_=>h,λh'=>(by cases h')⟩⟩
theorem kN(X Y):H' false X Y=Y ():=propext ⟨λh=>h.2 rfl,λh=>⟨λh'=>(by cases h'),λ_=>h⟩⟩
theorem lk(m)(dst)(op)(ty)(pos)(after)(g)(e)(h) :
  b8 P m ⟨dst,op,ty,pos,after,g⟩ e h=b8 P m ⟨dst,op,ty, "", #[],none⟩ e h:=by cases op<;>rfl
theorem Un(ops)(rest)(dst)(op)(ty)(pos)(after) :
  @WO ⟨P,H,ops,⟨dst,op,ty,pos,after,none⟩::rest,Q⟩ A=@WR ⟨P,H,ops,rest,Q,dst⟩ A (b8 P (aS H) ⟨dst,op,ty, "", #[],none⟩ A.eval A.h):=by
 rw[<-lk P (aS H) dst op ty pos after none];unfold WO WR;simp only[i7,bA,tf];exact jJ _ _
theorem Rs(ops)(rest)(dst)(op)(ty)(pos)(after)(j)(b) :
  @WO ⟨P,H,ops,⟨dst,op,ty,pos,after,some (j,b)⟩::rest,Q⟩ A =
  @WN ⟨λ_=>lz P A dst (i7 P H ops Q rest) Q (b8 P (aS H) ⟨dst,op,ty,pos,after,some (j,b)⟩ A.eval A.h),
    λ_=>i7 P H ops Q rest (A.put dst (.p (.tuple [])) A.h)⟩ (rU A ((ops[j]?).bind (·.dst)) b):=propext Iff.rfl
theorem Uo(X Y)(b):@WN ⟨X,Y⟩ (some b)=@WB ⟨X,Y⟩ b:=propext Iff.rfl
theorem UF(X Y)(b):@WC ⟨X,Y⟩ (.p (.bool b))=@WB ⟨X,Y⟩ b:=propext Iff.rfl
theorem WK(X Y)(b):@WB ⟨X,Y⟩ (!b)=@WB ⟨Y,X⟩ b:=by
 cases b
 .exact(jJ X Y).trans (kN Y X).symm
 .exact(kN X Y).trans (jJ Y X).symm
theorem Mr(ops)(rest)(d dst)(op)(ty)(pos)(after)(g)(Y) :
  @WB ⟨λ_=>lz P A dst (i7 P H ops Q rest) Q (b8 P (aS H) ⟨d,op,ty,pos,after,g⟩ A.eval A.h),Y⟩ true =
   @WR ⟨P,H,ops,rest,Q,dst⟩ A (b8 P (aS H) ⟨d,op,ty, "", #[],none⟩ A.eval A.h):=by
 rw[<-lk P (aS H) d op ty pos after g];exact jJ _ _
theorem Jr(X)(ops)(l)(B):@WB ⟨X,λ_=>i7 P H ops Q l B⟩ false=@WO ⟨P,H,ops,l,Q⟩ B:=kN _ _
theorem Mp(c)(Y):@WB ⟨λ_=>wp P H c Q A,Y⟩ true=@W ⟨P,H,c,Q⟩ A:=jJ _ _
theorem Jp(c)(X):@WB ⟨X,λ_=>wp P H c Q A⟩ false=@W ⟨P,H,c,Q⟩ A:=kN _ _
theorem WG(ops)(rest)(dst)(v)(h):@WR ⟨P,H,ops,rest,Q,dst⟩ A (.val v h)=@WO ⟨P,H,ops,rest,Q⟩ (A.put dst v h):=propext Iff.rfl
theorem Uk(ops)(rest)(dst)(h):@WR ⟨P,H,ops,rest,Q,dst⟩ A (.skip h)=@WO ⟨P,H,ops,rest,Q⟩ (A.put dst (.p (.tuple [])) h):=propext Iff.rfl
theorem Ul(k)(f)(args):@WR ⟨k⟩ A (.call f args)=@WF ⟨k⟩ A f args:=propext Iff.rfl
theorem Rq(ops)(rest)(dst)(v):@WR ⟨P,H,ops,rest,Q,dst⟩ A (.panic v)=@WQ ⟨Q⟩ (.panic v) A:=propext Iff.rfl
theorem Mn(rs)(n)(R):@WQ ⟨iW P rs n R⟩ .ret A=(A.bs=n/\cq P rs (R A.rc) A.tmps A.df .ret A.h):=propext Iff.rfl
theorem EV(rs)(n)(R):@WQ ⟨iW P rs n R⟩ .normal A=(A.bs=n/\cq P rs (R A.rc) A.tmps A.df .ret A.h):=propext Iff.rfl
theorem HS(rs)(n)(R)(v):@WQ ⟨iW P rs n R⟩ (.panic v) A=(A.bs=n/\cq P rs (R A.rc) A.tmps A.df (.pan v) A.h):=propext Iff.rfl
def tD:AV->Option (List AV)->Option (List AV)
 |v,some l=>if v.single=true then some (v::l) else none
 |_,none=>none
def RU:OR->Option (List AV)->Option (List AV)
 |.val v _,r=>tD v r
 |_,_=>none
def U1 (R:AEnd->Heap->Prop) (h:Heap):Option AV->Prop
 |some v=>R (.ret v) h
 |none=>False
theorem NB(rs)(R)(T)(h):cq P rs R T [] .ret h=U1 R h (pP (l9 P h T rs)):=propext Iff.rfl
theorem NC(rs)(R)(T)(h)(v):cq P rs R T [] (.pan v) h=R (.panic v) h:=propext Iff.rfl
theorem MZ(R)(h)(v):U1 R h (some v)=R (.ret v) h:=propext Iff.rfl
theorem Rn(h)(T):l9 P h T []=some []:=rfl
theorem Rm(h)(T)(t)(rs):l9 P h T (.tmp t::rs)=tD (T t) (l9 P h T rs):=by
 rw[l9.eq_2];cases hr:l9 P h T rs<;>rfl
theorem OU(h)(T)(t)(ty)(rs):l9 P h T (.cell t ty::rs)=RU (o9 P ty (T t) h) (l9 P h T rs):=by
 rw[l9.eq_2];unfold Ml;dsimp only;generalize l9 P h T rs=x;cases o9 P ty (T t) h<;>cases x<;>rfl
theorem Tt(v)(l):tD (.p v) (some l)=some (.p v::l):=rfl
theorem N8(i j k o)(l):tD (.ptr i j k o) (some l)=some (.ptr i j k o::l):=rfl
theorem IM(i j k o)(l):tD (.slice i j k o) (some l)=some (.slice i j k o::l):=rfl
theorem N9(cs)(l):tD (.agg cs) (some l)=some (.agg cs::l):=rfl
theorem LT(f)(a c)(l):tD (.func f a c) (some l)=some (.func f a c::l):=rfl
theorem Oa(v)(h)(r):RU (.val v h) r=tD v r:=rfl
theorem Jj:pP (some [])=some (.p (.tuple [])):=rfl
theorem Ji(v):pP (some [v])=some v:=rfl
theorem Jh(v u)(l):pP (some (v::u::l))=some (rR (v::u::l)):=rfl
theorem aT{k}{b}(h1:b=true->@WB ⟨k⟩ true)(h2:b=false->@WB ⟨k⟩ false):@WB ⟨k⟩ b:=by
 cases b
 .exact h2 rfl
 .exact h1 rfl
theorem WJ(ops)(hs):@WD ⟨P,H,ops,[],Q⟩ hs A=@WQ ⟨Q⟩ .normal A:=propext Iff.rfl
theorem Uq(ops)(rest)(hs)(dst)(op)(ty)(pos)(after) :
  @WD ⟨P,H,ops,⟨dst,op,ty,pos,after,none⟩::rest,Q⟩ hs A=@qM ⟨P,H,ops,rest,Q,⟨dst,op,ty,pos,after,none⟩⟩ hs A (bT H ⟨dst,op,ty, "", #[],none⟩):=by
 unfold WD qM;simp only[bR,bA,tf];exact jJ _ _
theorem Rt(ops)(rest)(hs)(dst)(op)(ty)(pos)(after)(j)(b) :
  @WD ⟨P,H,ops,⟨dst,op,ty,pos,after,some (j,b)⟩::rest,Q⟩ hs A =
  @WN ⟨λ_=>@qM ⟨P,H,ops,rest,Q,⟨dst,op,ty,pos,after,some (j,b)⟩⟩ hs A (bT H ⟨dst,op,ty, "", #[],none⟩),
    λ_=>@WD ⟨P,H,ops,rest,Q⟩ hs (A.put dst (.p (.tuple [])) A.h)⟩ (rU A ((ops[j]?).bind (·.dst)) b):=propext Iff.rfl
theorem Jo(k)(hs)(d)(Y):@WB ⟨λ_=>@qM ⟨k⟩ hs A d,Y⟩ true=@qM ⟨k⟩ hs A d:=jJ _ _
theorem Jq(k)(hs)(B)(X):@WB ⟨X,λ_=>@WD ⟨k⟩ hs B⟩ false=@WD ⟨k⟩ hs B:=kN _ _
theorem HV(ops)(l)(B)(Y):@WB ⟨λ_=>i7 P H ops Q l B,Y⟩ true=@WO ⟨P,H,ops,l,Q⟩ B:=jJ _ _
theorem HX(ops)(rest)(d dst)(op)(ty)(pos)(after)(g)(X) :
  @WB ⟨X,λ_=>lz P A dst (i7 P H ops Q rest) Q (b8 P (aS H) ⟨d,op,ty,pos,after,g⟩ A.eval A.h)⟩ false =
   @WR ⟨P,H,ops,rest,Q,dst⟩ A (b8 P (aS H) ⟨d,op,ty, "", #[],none⟩ A.eval A.h):=by
 rw[<-lk P (aS H) d op ty pos after g];exact kN _ _
theorem Mq(k)(hs)(B)(Y):@WB ⟨λ_=>@WD ⟨k⟩ hs B,Y⟩ true=@WD ⟨k⟩ hs B:=jJ _ _
theorem HW(k)(hs)(d)(X):@WB ⟨X,λ_=>@qM ⟨k⟩ hs A d⟩ false=@qM ⟨k⟩ hs A d:=kN _ _
section
variable (ops:Array Oper) (rest:List Oper) (hs:Heap) (dst:Option Tmp) (op:Op) (ty:TypeId) (pos:String) (after:Array Edge) (g:Option (Nat×Bool))
theorem UB:@qM ⟨P,H,ops,rest,Q,⟨dst,op,ty,pos,after,g⟩⟩ hs A .bar=@O1 ⟨P,H,ops,rest,Q,⟨dst,op,ty,pos,after,g⟩⟩ A (b8 P (aS H) ⟨dst,op,ty, "", #[],none⟩ A.eval A.h):=by
 rw[<-lk P (aS H) dst op ty pos after g];exact propext Iff.rfl
theorem OZ:@qM ⟨P,H,ops,rest,Q,⟨dst,op,ty,pos,after,g⟩⟩ hs A .alloc=@Yj ⟨P,H,ops,rest,Q,⟨dst,op,ty,pos,after,g⟩⟩ hs A (b8 P (aS H) ⟨dst,op,ty, "", #[],none⟩ A.eval A.h):=by
 rw[<-lk P (aS H) dst op ty pos after g];exact propext Iff.rfl
theorem UC(t):@qM ⟨P,H,ops,rest,Q,⟨dst,op,ty,pos,after,g⟩⟩ hs A (.app t)=@Yg ⟨P,H,ops,rest,Q,⟨dst,op,ty,pos,after,g⟩⟩ hs A (b8 P (aS H) ⟨dst,op,ty, "", #[],none⟩ A.eval A.h):=by
 rw[<-lk P (aS H) dst op ty pos after g];exact propext Iff.rfl
theorem Uw:@qM ⟨P,H,ops,rest,Q,⟨dst,op,ty,pos,after,g⟩⟩ hs A .thr=@OX ⟨P,H,ops,rest,Q,⟨dst,op,ty,pos,after,g⟩⟩ hs A (b8 P (aS H) ⟨dst,op,ty, "", #[],none⟩ A.eval A.h):=by
 rw[<-lk P (aS H) dst op ty pos after g];exact propext Iff.rfl
theorem UA:@qM ⟨P,H,ops,rest,Q,⟨dst,op,ty,pos,after,g⟩⟩ hs A .cal=@Yh ⟨P,H,ops,rest,Q,⟨dst,op,ty,pos,after,g⟩⟩ hs A (b8 P (aS H) ⟨dst,op,ty, "", #[],none⟩ A.eval A.h):=by
 rw[<-lk P (aS H) dst op ty pos after g];exact propext Iff.rfl
theorem OY:@qM ⟨P,H,ops,rest,Q,⟨dst,op,ty,pos,after,g⟩⟩ hs A .quiet=@HU ⟨P,H,ops,rest,Q,⟨dst,op,ty,pos,after,g⟩⟩ hs A.h A (b8 P (aS H) ⟨dst,op,ty, "", #[],none⟩ A.eval A.h):=by
 rw[<-lk P (aS H) dst op ty pos after g];exact propext Iff.rfl
theorem Uz:@qM ⟨P,H,ops,rest,Q,⟨dst,op,ty,pos,after,g⟩⟩ hs A .low=@HU ⟨P,H,ops,rest,Q,⟨dst,op,ty,pos,after,g⟩⟩ hs hs A (b8 P (aS H) ⟨dst,op,ty, "", #[],none⟩ A.eval hs):=by
 rw[<-lk P (aS H) dst op ty pos after g];exact propext Iff.rfl
theorem Rz(j sz):@qM ⟨P,H,ops,rest,Q,⟨dst,op,ty,pos,after,g⟩⟩ hs A (.slot j sz)=@Yf ⟨P,H,ops,rest,Q,⟨dst,op,ty,pos,after,g⟩⟩ hs A j sz (g9 P A.eval op):=propext Iff.rfl
theorem Ux(T)(a x):@qM ⟨P,H,ops,rest,Q,⟨dst,.store T a x,ty,pos,after,g⟩⟩ hs A .sto=@Yi ⟨P,H,ops,rest,Q,⟨dst,.store T a x,ty,pos,after,g⟩⟩ hs A T (A.eval a) (A.eval x):=propext Iff.rfl
theorem Uy(T)(a x):@qM ⟨P,H,ops,rest,Q,⟨dst,.store T a x,ty,pos,after,g⟩⟩ hs A .nop=(gX P T (A.eval a) (A.eval x) A.h=.skip A.h/\@WD ⟨P,H,ops,rest,Q⟩ hs (A.put dst (.p (.tuple [])) A.h)):=propext Iff.rfl
theorem Uv(T)(y)(id ver i k):@Yi ⟨P,H,ops,rest,Q,⟨dst,op,ty,pos,after,g⟩⟩ hs A T (.ptr id ver i k) y =
  (iX hs id=true/\@Ye ⟨P,H,ops,rest,Q,⟨dst,op,ty,pos,after,g⟩⟩ hs A (gX P T (.ptr id ver i k) y A.h)):=propext Iff.rfl
theorem Ru(h):@Ye ⟨P,H,ops,rest,Q,⟨dst,op,ty,pos,after,g⟩⟩ hs A (.skip h)=@WD ⟨P,H,ops,rest,Q⟩ hs (A.put dst (.p (.tuple [])) h):=propext Iff.rfl
theorem Rv(j sz)(z):@Yf ⟨P,H,ops,rest,Q,⟨dst,op,ty,pos,after,g⟩⟩ hs A j sz (some z) =
  (z.cells.map (·.length)=some sz/\iX hs (hs.length-1-j)=true/\A.h[hs.length-1-j]?=some (.row sz [])/\@WD ⟨P,H,ops,rest,Q⟩ hs (A.put dst (.ptr (hs.length-1-j) 1 0 0) (A.h.set (hs.length-1-j) (.row sz [z])))):=propext Iff.rfl
theorem UD(v)(h):@O1 ⟨P,H,ops,rest,Q,⟨dst,op,ty,pos,after,g⟩⟩ A (.val v h)=@WD ⟨P,H,ops,rest,Q⟩ (A.put dst v h).h (A.put dst v h):=propext Iff.rfl
theorem RA(h):@O1 ⟨P,H,ops,rest,Q,⟨dst,op,ty,pos,after,g⟩⟩ A (.skip h)=@WD ⟨P,H,ops,rest,Q⟩ (A.put dst (.p (.tuple [])) h).h (A.put dst (.p (.tuple [])) h):=propext Iff.rfl
theorem O0(v):@O1 ⟨P,H,ops,rest,Q,⟨dst,op,ty,pos,after,g⟩⟩ A (.panic v)=@WQ ⟨Q⟩ (.panic v) A:=propext Iff.rfl
theorem UE(v)(h):@Yj ⟨P,H,ops,rest,Q,⟨dst,op,ty,pos,after,g⟩⟩ hs A (.val v h)=((∃t,h=A.h++t)/\@WD ⟨P,H,ops,rest,Q⟩ hs (A.put dst v h)):=propext Iff.rfl
theorem Uu(v)(h):@Yg ⟨P,H,ops,rest,Q,⟨dst,op,ty,pos,after,g⟩⟩ hs A (.val v h)=(R5 hs A.h h/\@WD ⟨P,H,ops,rest,Q⟩ hs (A.put dst v h)):=propext Iff.rfl
theorem Ur(v)(h0):@HU ⟨P,H,ops,rest,Q,⟨dst,op,ty,pos,after,g⟩⟩ hs h0 A (.val v h0)=@WD ⟨P,H,ops,rest,Q⟩ hs (A.put dst v A.h):=
 propext ⟨λh=>h.2,λh=>⟨rfl,h⟩⟩
end
end
variable {P:Program}
def rO (M:Nat->Prop) (w:World) (cargs:Array Value) (pargs:List PV):Prop:=cargs.size=pargs.length/\∀(i:Nat) (c:PV),pargs[i]?=some c->RepP M w (cargs.getD i undef) c
def af (P:Program) (f:FuncId) (pargs:List PV) (v:PV):Prop:=
 ∀(M0:Nat->Prop) (w:World) (cargs:Array Value),(∀b,M0 b->b<w.heap.size)->wC P w->rO M0 w cargs pargs ->
  (∀w',(callFunc f cargs).run P w'=.ok (.enter f cargs) w') /\
  Calls P f cargs w λe w'=>∃v',e=.returned v'/\RepP M0 w' v' v/\Fr [] w w'
theorem rT{M0:Nat->Prop}{w:World}(h:∀b,M0 b->b<w.heap.size)(hg:wC P w):HOk P M0 ⟨[],[],w⟩ where
 gl:=⟨hg,λb _ hb=>by simp[Own]at hb⟩
 len:=rfl
 lt:=λb hb=>by simp[Own]at hb
 m0:=λb hb=>⟨h b hb,by simp[Own]⟩
 inj:=λi j b hi=>by simp at hi
 obj:=λid o ho=>by simp at ho
theorem y6(hD:ea P){H}{f}{fn}{c}{pargs}{v}{rs}{n}(hf:P.funcs[f]?=some fn)(hb:fn.body=some c)(hrs:fn.results.toList=rs)(hn:fn.ntmps=n)(hok:cC H fn=true)
  (hlen:pargs.length<=n) (hw:SW P H c (iW P rs 0 (λ_ r _=>r=.ret (.p v))) (aZ n .no (pargs.map .p) [])):af P f pargs v:=by
 intro M0 w cargs hM hg ha;have ha':dZ (Rep M0 ⟨[],[],w⟩) cargs (pargs.map .p):=by
  refine⟨by simpa using ha.1,λi c hc=>?_⟩;simp only[cO,cg]at hc;obtain⟨q,hq,rfl⟩:=hc;exact aH ((ha.2 i q hq).mono (λ_ _ _=>rfl) (λb hb=>by
   rcases hb with hb|hb
   .exact .inl hb
   .simp[Own]at hb))
 have:=zd hD (h:=[]) (R:=λr _=>r=.ret (.p v)) hf hb hrs hn hok (by simpa using hlen) hw M0 [] w cargs (rT hM hg) ha';refine⟨this.1,this.2.mono λe w' h=>?_⟩;obtain⟨r,h',m',rfl,hev,hk,hend⟩:=h
 cases e with
 |returned v'=>exact⟨v',rfl,RepP.less (show RepP (Avoid M0 m') w' v' v from hend) (λb hb=>.inl hb),hev.fr⟩
 |panicked ch=>exact hend.elim
 |outgrown=>exact hend.elim
theorem Iu(hD:ea P){H}{f}{fn}{c}{pargs}{v}{rs}{n}(hf:P.funcs[f]?=some fn)(hb:fn.body=some c)(hrs:fn.results.toList=rs)(hn:fn.ntmps=n)(hok:cC H fn=true)
  (hlen:pargs.length<=n) (hw:wp P H c (iW P rs 0 (λ_ r _=>r=.ret (.p v))) (aZ n .no (pargs.map .p) [])):af P f pargs v:=
 y6 hD hf hb hrs hn hok hlen (nZ hD hw)
theorem tB{M0}{S}(hS:HOk P M0 S){w'}(h:Fr [] S.w w'):HOk P M0 ⟨S.m,S.h,w'⟩/\Ev S.h.length S ⟨S.m,S.h,w'⟩:=by
 have hall:∀b,b<S.w.heap.size->w'.heap[b]?=S.w.heap[b]?:=λb hb=>h.block b hb (by simp[Own])
 have hev:Ev S.h.length S ⟨S.m,S.h,w'⟩:=
  {fr:=⟨h.os,h.tape,h.output,h.size,λb hb _=>hall b hb,h.shape⟩
   sub:=λb hb=>.inl hb
   obj:=λid o _ ho=>⟨o,ho,ObjEv.refl _ _⟩ }
 exact⟨
  {len:=hS.len
   lt:=λb hb=>jM (hS.lt b hb) h.size
   m0:=λb hb=>⟨jM (hS.m0 b hb).1 h.size,(hS.m0 b hb).2⟩
   inj:=hS.inj
   gl:=hev.glob hS.gl
   obj:=λid o ho=>(hS.obj id o ho).keep hev λb hb=>hall b (hS.lt b (aG (cK hb))) },hev⟩
theorem rG{f}{pargs}{v}{h}(hc:af P f pargs v):aD P f (pargs.map .p) h (λr h'=>r=.ret (.p v)/\h'=h):=by
 intro M0 m w cargs hS ha;have hM:∀b,Avoid M0 m b->b<w.heap.size:=λb hb=>by
  rcases hb with hb|hb
  .exact(hS.m0 b hb).1
  .exact hS.lt b hb
 have hargs:rO (Avoid M0 m) w cargs pargs:=by
  refine⟨by simpa using ha.1,λi c hi=>?_⟩;have:=ha.2 i (.p c) (by simp[hi]);exact this
 obtain⟨h1,h2⟩:=hc (Avoid M0 m) w cargs hM hS.gl.1 hargs;refine⟨h1,h2.mono λe w' h=>?_⟩;obtain⟨v',rfl,hv,hfr⟩:=h;obtain⟨hk,hev⟩:=tB hS hfr;exact⟨.ret (.p v),_,m,⟨rfl,rfl⟩,hev,hk,hv⟩
theorem aD.mono{f}{args}{h}{R R'}(hc:aD P f args h R)(hr:∀r h',R r h'->R' r h'):aD P f args h R':=
 λM0 m w cargs hS ha=>let ⟨h1,h2⟩:=hc M0 m w cargs hS ha
  ⟨h1,h2.mono λ_ _ hb=>let ⟨r,h',m',hR,rest⟩:=hb;⟨r,h',m',hr r h' hR,rest⟩⟩
theorem ae{P}{H}{ops}{rest}{Q}{dst}{A}{f}{args}{pargs}{v}(hc:af P f pargs v)(ha:args=pargs.map .p)
  (h:@WO ⟨P,H,ops,rest,Q⟩ (A.put dst (.p v) A.h)):@WF ⟨P,H,ops,rest,Q,dst⟩ A f args:=by
 subst ha;refine(rG (h:=A.h) hc).mono λr h' hr=>?_;obtain⟨rfl,rfl⟩:=hr;exact h
theorem ax{P}{H}{ops}{rest}{Q}{o}{hs h0}{A}{f}{args}{pargs}{v}(hc:af P f pargs v)(ha:args=pargs.map .p)
  (h:@WD ⟨P,H,ops,rest,Q⟩ hs (A.put o.dst (.p v) A.h)):@HU ⟨P,H,ops,rest,Q,o⟩ hs h0 A (.call f args):=by
 subst ha;exact⟨.p v,λ_ _=>rG hc,h⟩
end Abs
end Go.Proofs.YtoapoaoelpcniaaGreatDoor
