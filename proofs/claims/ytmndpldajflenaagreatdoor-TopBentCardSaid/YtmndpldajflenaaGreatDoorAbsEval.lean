/- THE WALK OF THE ABSTRACT MACHINE BY REWRITING: what is not to be looked into stands in pla -/
import Derived.Test.YtmndpldajflenaaGreatDoorAbsDraw
set_option linter.all false
namespace Go.Proofs.YtmndpldajflenaaGreatDoor
namespace Abs
class Bx (α:Type) where
 val:α
abbrev Cont:=Ex->AAct->Prop
structure CodeK where
 P:Program
 H:Hints
 c:Code
 Q:Cont
structure OpsK where
 P:Program
 H:Hints
 ops:Array Oper
 rest:List Oper
 Q:Cont
structure OpK where
 P:Program
 H:Hints
 ops:Array Oper
 rest:List Oper
 Q:Cont
 dst:Option Tmp
structure DrK where
 P:Program
 H:Hints
 ops:Array Oper
 rest:List Oper
 Q:Cont
structure DOpK where
 P:Program
 H:Hints
 ops:Array Oper
 rest:List Oper
 Q:Cont
 op:Oper
def W [k:Bx CodeK] (A:AAct):Prop:=wp k.val.P k.val.H k.val.c k.val.Q A
def WO [k:Bx OpsK] (A:AAct):Prop:=fY k.val.P k.val.H k.val.ops k.val.Q k.val.rest A
def WQ [k:Bx Cont] (e:Ex) (A:AAct):Prop:=k.val e A
def WR [k:Bx OpK] (A:AAct) (r:OR):Prop:=ja k.val.P A k.val.dst (fY k.val.P k.val.H k.val.ops k.val.Q k.val.rest) k.val.Q r
def WB [k:Bx ((Unit->Prop)×(Unit->Prop))] (b:Bool):Prop:=BU b k.val.1 k.val.2
def WN [k:Bx ((Unit->Prop)×(Unit->Prop))] (b:Option Bool):Prop:=oC k.val.1 k.val.2 b
def WC [k:Bx ((Unit->Prop)×(Unit->Prop))] (v:AV):Prop:=yX k.val.1 k.val.2 v
def WF [k:Bx OpK] (A:AAct) (f:FuncId) (args:List AV):Prop:=ja k.val.P A k.val.dst (fY k.val.P k.val.H k.val.ops k.val.Q k.val.rest) k.val.Q (.call f args)
def WD [k:Bx DrK] (hs:Heap) (A:AAct):Prop:=bi k.val.P k.val.H k.val.ops k.val.Q k.val.rest hs A
def mG [k:Bx DOpK] (hs:Heap) (A:AAct) (d:DC):Prop:=
 L7 (λ_=>ja k.val.P A k.val.op.dst (λB=>bi k.val.P k.val.H k.val.ops k.val.Q k.val.rest B.h B) k.val.Q (aW k.val.P (au k.val.H) k.val.op A.eval A.h))
   (λ_=>xm A.h (λv h=>bi k.val.P k.val.H k.val.ops k.val.Q k.val.rest hs (A.put k.val.op.dst v h)) (aW k.val.P (au k.val.H) k.val.op A.eval A.h))
   (λ_=>tN k.val.P A.h (λv=>bi k.val.P k.val.H k.val.ops k.val.Q k.val.rest hs (A.put k.val.op.dst v A.h)) (aW k.val.P (au k.val.H) k.val.op A.eval A.h))
   (λ_=>tN k.val.P hs (λv=>bi k.val.P k.val.H k.val.ops k.val.Q k.val.rest hs (A.put k.val.op.dst v A.h)) (aW k.val.P (au k.val.H) k.val.op A.eval hs))
   (λj sz=>oF hs A.h j sz (λv h=>bi k.val.P k.val.H k.val.ops k.val.Q k.val.rest hs (A.put k.val.op.dst v h)) (fo k.val.P A.eval k.val.op.op))
   (λ_=>rV k.val.P hs A.h A.eval (λh=>bi k.val.P k.val.H k.val.ops k.val.Q k.val.rest hs (A.put k.val.op.dst (.p (.tuple [])) h)) k.val.op.op)
   (λ_=>sc k.val.P A.h A.eval (bi k.val.P k.val.H k.val.ops k.val.Q k.val.rest hs (A.put k.val.op.dst (.p (.tuple [])) A.h)) k.val.op.op)
   (λt=>mK k.val.P t (dE k.val.op.op) hs A.h (λv h=>bi k.val.P k.val.H k.val.ops k.val.Q k.val.rest hs (A.put k.val.op.dst v h)) (λh=>aW k.val.P (au k.val.H) k.val.op A.eval h))
   (λ_=>ug k.val.P k.val.Q A (λv=>bi k.val.P k.val.H k.val.ops k.val.Q k.val.rest hs (A.put k.val.op.dst v A.h)) (aW k.val.P (au k.val.H) k.val.op A.eval A.h))
   (λ_=>n4 k.val.P k.val.H k.val.Q hs A (λv h=>bi k.val.P k.val.H k.val.ops k.val.Q k.val.rest hs (A.put k.val.op.dst v h)) (aW k.val.P (au k.val.H) k.val.op A.eval A.h))
   d
def N2 [k:Bx DOpK] (hs:Heap) (A:AAct) (j sz:Nat) (z:Option AV):Prop:=oF hs A.h j sz (λv h=>bi k.val.P k.val.H k.val.ops k.val.Q k.val.rest hs (A.put k.val.op.dst v h)) z
def N5 [k:Bx DOpK] (hs:Heap) (A:AAct) (T:TypeId) (a y:AV):Prop:=
 match a with
 |.ptr id ver i o=>eG hs id=true/\mP (λh=>bi k.val.P k.val.H k.val.ops k.val.Q k.val.rest hs (A.put k.val.op.dst (.p (.tuple [])) h)) (fi k.val.P T (.ptr id ver i o) y A.h)
 |_=>False
def N1 [k:Bx DOpK] (hs:Heap) (A:AAct) (r:OR):Prop:=mP (λh=>bi k.val.P k.val.H k.val.ops k.val.Q k.val.rest hs (A.put k.val.op.dst (.p (.tuple [])) h)) r
def Hl [k:Bx DOpK] (A:AAct) (r:OR):Prop:=ja k.val.P A k.val.op.dst (λB=>bi k.val.P k.val.H k.val.ops k.val.Q k.val.rest B.h B) k.val.Q r
def N6 [k:Bx DOpK] (hs:Heap) (A:AAct) (r:OR):Prop:=xm A.h (λv h=>bi k.val.P k.val.H k.val.ops k.val.Q k.val.rest hs (A.put k.val.op.dst v h)) r
def N3 [k:Bx DOpK] (hs:Heap) (A:AAct) (r:OR):Prop:=BD hs A.h (λv h=>bi k.val.P k.val.H k.val.ops k.val.Q k.val.rest hs (A.put k.val.op.dst v h)) r
def Qf [k:Bx DOpK] (ap:Bool) (hs:Heap) (A:AAct) (r:OR):Prop:=nN k.val.P ap hs A.h (λv h=>bi k.val.P k.val.H k.val.ops k.val.Q k.val.rest hs (A.put k.val.op.dst v h)) r
def Qe [k:Bx DOpK] (hs:Heap) (A:AAct) (r:OR):Prop:=ug k.val.P k.val.Q A (λv=>bi k.val.P k.val.H k.val.ops k.val.Q k.val.rest hs (A.put k.val.op.dst v A.h)) r
def Dy [k:Bx DOpK] (hs h0:Heap) (A:AAct) (r:OR):Prop:=tN k.val.P h0 (λv=>bi k.val.P k.val.H k.val.ops k.val.Q k.val.rest hs (A.put k.val.op.dst v A.h)) r
def N4 [k:Bx DOpK] (hs:Heap) (A:AAct) (r:OR):Prop:=n4 k.val.P k.val.H k.val.Q hs A (λv h=>bi k.val.P k.val.H k.val.ops k.val.Q k.val.rest hs (A.put k.val.op.dst v h)) r
def H0:Hints:=λ_=>.std
def je:List (Nat×Hint)->Hints
 |[],_=>.std
 |(k,h)::l,t=>if t=k then h else je l t
theorem Gv(t):je [] t=.std:=rfl
theorem Eo(k)(h)(l)(t):je ((k,h)::l) t=if t=k then h else je l t:=rfl
section
variable (P:Program) (H:Hints) (Q:Cont) (A:AAct)
theorem NS(c):wp P H c Q A=@W ⟨P,H,c,Q⟩ A:=propext Iff.rfl
theorem ME:@W ⟨P,H,.skip,Q⟩ A=@WQ ⟨Q⟩ .normal A:=propext Iff.rfl
theorem IN(i)(l):@W ⟨P,H,.region i ⟨l⟩ false,Q⟩ A=@WO ⟨P,H,⟨l⟩,l,Q⟩ A:=propext Iff.rfl
theorem Du(i)(l):@W ⟨P,H,.region i ⟨l⟩ true,Q⟩ A=@WD ⟨P,H,⟨l⟩,ur H l,Q⟩ (lk H l A) (mU H l A):=propext Iff.rfl
def Dd:Hint->Bool
 |.slot _ _=>true
 |_=>false
theorem af(i)(l)(h:Dd (H 5000000)=false):@W ⟨P,H,.region i ⟨l⟩ true,Q⟩ A=@WD ⟨P,H,⟨l⟩,l,Q⟩ (lk H l A) (mU H l A):=by
 have e:ur H l=l:=by
  unfold ur;cases hh:H 5000000<;>rw[hh]at h<;>first|rfl|cases h
 rw[Du,e]
theorem uD{o}:(∀j sz,bh H0 o≠.slot j sz)/\bh H0 o≠.sto/\∀t,bh H0 o≠.app t:=by
 have h0:∀op,oE H0 op=.bar:=by
  intro op;unfold oE;split
  .rfl
  .rfl
 unfold bh;split
 .rw[h0];exact⟨λj sz=>by simp,by simp,λt=>by simp⟩
 .show (∀j sz,(if mo o.op=true then DC.alloc else if bR o.op=true then .quiet else .bar)≠.slot j sz)/\(if mo o.op=true then DC.alloc else if bR o.op=true then .quiet else .bar)≠.sto/\∀t,(if mo o.op=true then DC.alloc else if bR o.op=true then .quiet else .bar)≠.app t;split
  .exact⟨λj sz=>by simp,by simp,λt=>by simp⟩
  .split
   .exact⟨λj sz=>by simp,by simp,λt=>by simp⟩
   .exact⟨λj sz=>by simp,by simp,λt=>by simp⟩
theorem xH:∀l,oG H0 l=[]
 |[]=>rfl
 |o::l=>by
  unfold oG;split
  .rename_i j sz h;exact absurd h (uD.1 j sz)
  .exact xH l
theorem uU(T):∀l,jT H0 T l=[]
 |[]=>rfl
 |o::l=>by
  unfold jT;split
  .rename_i h _;exact absurd h uD.2.1
  .rename_i h;exact absurd h (uD.2.2 _)
  .exact uU T l
theorem MG(i)(l):@W ⟨P,H0,.region i ⟨l⟩ true,Q⟩ A=@WD ⟨P,H0,⟨l⟩,l,Q⟩ A.h A:=by
 rw[af _ _ _ _ _ _ rfl];unfold lk mU ti;rw[xH,uU];simp[qO,D6,H0]
theorem NQ(a b):@W ⟨P,H,.seq a b,Q⟩ A=@W ⟨P,H,a,dZ (wp P H b Q) Q⟩ A:=propext Iff.rfl
theorem MH(c)(x y):@W ⟨P,H,.cond c x y,Q⟩ A=@WC ⟨λ_=>wp P H x Q A,λ_=>wp P H y Q A⟩ (A.eval c):=propext Iff.rfl
theorem KP(id)(b):@W ⟨P,H,.block id b,Q⟩ A=@W ⟨P,H,b,j4 id Q⟩ A:=propext Iff.rfl
theorem KM(b):@W ⟨P,H,.scope b,Q⟩ A=@W ⟨P,H,b,Q⟩ A:=propext Iff.rfl
theorem KO(l):@W ⟨P,H,.label l,Q⟩ A=@WQ ⟨Q⟩ .normal A:=propext Iff.rfl
theorem MF(id):@W ⟨P,H,.exit id,Q⟩ A=@WQ ⟨Q⟩ (.exit id) A:=propext Iff.rfl
theorem NR:@W ⟨P,H,.ret,Q⟩ A=@WQ ⟨Q⟩ .ret A:=propext Iff.rfl
theorem yG(b)(R):@WQ ⟨dZ (wp P H b Q) R⟩ .normal A=@W ⟨P,H,b,Q⟩ A:=propext Iff.rfl
theorem CN(K)(j):@WQ ⟨dZ K Q⟩ (.exit j) A=@WQ ⟨Q⟩ (.exit j) A:=propext Iff.rfl
theorem E2(K):@WQ ⟨dZ K Q⟩ .ret A=@WQ ⟨Q⟩ .ret A:=propext Iff.rfl
theorem BJ(K)(v):@WQ ⟨dZ K Q⟩ (.panic v) A=@WQ ⟨Q⟩ (.panic v) A:=propext Iff.rfl
theorem wg(id):@WQ ⟨j4 id Q⟩ .normal A=@WQ ⟨Q⟩ .normal A:=propext Iff.rfl
theorem yK(id j):@WQ ⟨j4 id Q⟩ (.exit j) A=if j=id then @WQ ⟨Q⟩ .normal A else @WQ ⟨Q⟩ (.exit j) A:=propext Iff.rfl
theorem BM(id):@WQ ⟨j4 id Q⟩ .ret A=@WQ ⟨Q⟩ .ret A:=propext Iff.rfl
theorem xu(id)(v):@WQ ⟨j4 id Q⟩ (.panic v) A=@WQ ⟨Q⟩ (.panic v) A:=propext Iff.rfl
theorem MK(ops):@WO ⟨P,H,ops,[],Q⟩ A=@WQ ⟨Q⟩ .normal A:=propext Iff.rfl
theorem gV(X Y):BU true X Y=X ():=propext ⟨λh=>h.1 rfl,λh=>⟨λ_=>h,λh'=>(by cases h')⟩⟩
theorem iG(X Y):BU false X Y=Y ():=propext ⟨λh=>h.2 rfl,λh=>⟨λh'=>(by cases h'),λ_=>h⟩⟩
theorem im(m)(dst)(op)(ty)(pos)(after)(g)(e)(h) :
  aW P m ⟨dst,op,ty,pos,after,g⟩ e h=aW P m ⟨dst,op,ty, "", #[],none⟩ e h:=by cases op<;>rfl
theorem KT(ops)(rest)(dst)(op)(ty)(pos)(after) :
  @WO ⟨P,H,ops,⟨dst,op,ty,pos,after,none⟩::rest,Q⟩ A=@WR ⟨P,H,ops,rest,Q,dst⟩ A (aW P (au H) ⟨dst,op,ty, "", #[],none⟩ A.eval A.h):=by
 rw[<-im P (au H) dst op ty pos after none];unfold WO WR;simp only[fY,aX,oC];exact gV _ _
theorem IQ(ops)(rest)(dst)(op)(ty)(pos)(after)(j)(b) :
  @WO ⟨P,H,ops,⟨dst,op,ty,pos,after,some (j,b)⟩::rest,Q⟩ A =
  @WN ⟨λ_=>ja P A dst (fY P H ops Q rest) Q (aW P (au H) ⟨dst,op,ty,pos,after,some (j,b)⟩ A.eval A.h),
    λ_=>fY P H ops Q rest (A.put dst (.p (.tuple [])) A.h)⟩ (m9 A ((ops[j]?).bind (·.dst)) b):=propext Iff.rfl
theorem KU(X Y)(b):@WN ⟨X,Y⟩ (some b)=@WB ⟨X,Y⟩ b:=propext Iff.rfl
theorem K9(X Y)(b):@WC ⟨X,Y⟩ (.p (.bool b))=@WB ⟨X,Y⟩ b:=propext Iff.rfl
theorem MN(X Y)(b):@WB ⟨X,Y⟩ (!b)=@WB ⟨Y,X⟩ b:=by
 cases b
 .exact(gV X Y).trans (iG Y X).symm
 .exact(iG X Y).trans (gV Y X).symm
theorem E7(ops)(rest)(d dst)(op)(ty)(pos)(after)(g)(Y) :
  @WB ⟨λ_=>ja P A dst (fY P H ops Q rest) Q (aW P (au H) ⟨d,op,ty,pos,after,g⟩ A.eval A.h),Y⟩ true =
   @WR ⟨P,H,ops,rest,Q,dst⟩ A (aW P (au H) ⟨d,op,ty, "", #[],none⟩ A.eval A.h):=by
 rw[<-im P (au H) d op ty pos after g];exact gV _ _
theorem CR(X)(ops)(l)(B):@WB ⟨X,λ_=>fY P H ops Q l B⟩ false=@WO ⟨P,H,ops,l,Q⟩ B:=iG _ _
theorem E5(c)(Y):@WB ⟨λ_=>wp P H c Q A,Y⟩ true=@W ⟨P,H,c,Q⟩ A:=gV _ _
theorem CP(c)(X):@WB ⟨X,λ_=>wp P H c Q A⟩ false=@W ⟨P,H,c,Q⟩ A:=iG _ _
theorem MI(ops)(rest)(dst)(v)(h):@WR ⟨P,H,ops,rest,Q,dst⟩ A (.val v h)=@WO ⟨P,H,ops,rest,Q⟩ (A.put dst v h):=propext Iff.rfl
theorem KQ(ops)(rest)(dst)(h):@WR ⟨P,H,ops,rest,Q,dst⟩ A (.skip h)=@WO ⟨P,H,ops,rest,Q⟩ (A.put dst (.p (.tuple [])) h):=propext Iff.rfl
theorem KR(k)(f)(args):@WR ⟨k⟩ A (.call f args)=@WF ⟨k⟩ A f args:=propext Iff.rfl
theorem IP(ops)(rest)(dst)(v):@WR ⟨P,H,ops,rest,Q,dst⟩ A (.panic v)=@WQ ⟨Q⟩ (.panic v) A:=propext Iff.rfl
theorem E3(rs)(n)(R):@WQ ⟨jv P rs n R⟩ .ret A=(A.bs=n/\dt P rs (R A.rc) A.tmps A.df .ret A.h):=propext Iff.rfl
theorem yJ(rs)(n)(R):@WQ ⟨jv P rs n R⟩ .normal A=(A.bs=n/\dt P rs (R A.rc) A.tmps A.df .ret A.h):=propext Iff.rfl
theorem BL(rs)(n)(R)(v):@WQ ⟨jv P rs n R⟩ (.panic v) A=(A.bs=n/\dt P rs (R A.rc) A.tmps A.df (.pan v) A.h):=propext Iff.rfl
def oQ:AV->Option (List AV)->Option (List AV)
 |v,some l=>if v.single=true then some (v::l) else none
 |_,none=>none
def Jh:OR->Option (List AV)->Option (List AV)
 |.val v _,r=>oQ v r
 |_,_=>none
def Lt (R:AEnd->Heap->Prop) (h:Heap):Option AV->Prop
 |some v=>R (.ret v) h
 |none=>False
theorem Gg(rs)(R)(T)(h):dt P rs R T [] .ret h=Lt R h (lQ (jx P h T rs)):=propext Iff.rfl
theorem Gh(rs)(R)(T)(h)(v):dt P rs R T [] (.pan v) h=R (.panic v) h:=propext Iff.rfl
theorem FC(R)(h)(v):Lt R h (some v)=R (.ret v) h:=propext Iff.rfl
theorem IM(h)(T):jx P h T []=some []:=rfl
theorem IL(h)(T)(t)(rs):jx P h T (.tmp t::rs)=oQ (T t) (jx P h T rs):=by
 rw[jx.eq_2];cases hr:jx P h T rs<;>rfl
theorem He(h)(T)(t)(ty)(rs):jx P h T (.cell t ty::rs)=Jh (lr P ty (T t) h) (jx P h T rs):=by
 rw[jx.eq_2];unfold E1;dsimp only;generalize jx P h T rs=x;cases lr P ty (T t) h<;>cases x<;>rfl
theorem Ko(v)(l):oQ (.p v) (some l)=some (.p v::l):=rfl
theorem GI(i j k o)(l):oQ (.ptr i j k o) (some l)=some (.ptr i j k o::l):=rfl
theorem Cu(i j k o)(l):oQ (.slice i j k o) (some l)=some (.slice i j k o::l):=rfl
theorem GJ(cs)(l):oQ (.agg cs) (some l)=some (.agg cs::l):=rfl
theorem EE(f)(a c)(l):oQ (.func f a c) (some l)=some (.func f a c::l):=rfl
theorem GK(v)(h)(r):Jh (.val v h) r=oQ v r:=rfl
theorem CJ:lQ (some [])=some (.p (.tuple [])):=rfl
theorem CI(v):lQ (some [v])=some v:=rfl
theorem CH(v u)(l):lQ (some (v::u::l))=some (m7 (v::u::l)):=rfl
theorem dT{k}{b}(h1:b=true->@WB ⟨k⟩ true)(h2:b=false->@WB ⟨k⟩ false):@WB ⟨k⟩ b:=by
 cases b
 .exact h2 rfl
 .exact h1 rfl
theorem MM(ops)(hs):@WD ⟨P,H,ops,[],Q⟩ hs A=@WQ ⟨Q⟩ .normal A:=propext Iff.rfl
theorem KV(ops)(rest)(hs)(dst)(op)(ty)(pos)(after) :
  @WD ⟨P,H,ops,⟨dst,op,ty,pos,after,none⟩::rest,Q⟩ hs A=@mG ⟨P,H,ops,rest,Q,⟨dst,op,ty,pos,after,none⟩⟩ hs A (bh H ⟨dst,op,ty, "", #[],none⟩):=by
 unfold WD mG;simp only[bi,aX,oC];exact gV _ _
theorem IR(ops)(rest)(hs)(dst)(op)(ty)(pos)(after)(j)(b) :
  @WD ⟨P,H,ops,⟨dst,op,ty,pos,after,some (j,b)⟩::rest,Q⟩ hs A =
  @WN ⟨λ_=>@mG ⟨P,H,ops,rest,Q,⟨dst,op,ty,pos,after,some (j,b)⟩⟩ hs A (bh H ⟨dst,op,ty, "", #[],none⟩),
    λ_=>@WD ⟨P,H,ops,rest,Q⟩ hs (A.put dst (.p (.tuple [])) A.h)⟩ (m9 A ((ops[j]?).bind (·.dst)) b):=propext Iff.rfl
theorem CO(k)(hs)(d)(Y):@WB ⟨λ_=>@mG ⟨k⟩ hs A d,Y⟩ true=@mG ⟨k⟩ hs A d:=gV _ _
theorem CQ(k)(hs)(B)(X):@WB ⟨X,λ_=>@WD ⟨k⟩ hs B⟩ false=@WD ⟨k⟩ hs B:=iG _ _
theorem BN(ops)(l)(B)(Y):@WB ⟨λ_=>fY P H ops Q l B,Y⟩ true=@WO ⟨P,H,ops,l,Q⟩ B:=gV _ _
theorem BP(ops)(rest)(d dst)(op)(ty)(pos)(after)(g)(X) :
  @WB ⟨X,λ_=>ja P A dst (fY P H ops Q rest) Q (aW P (au H) ⟨d,op,ty,pos,after,g⟩ A.eval A.h)⟩ false =
   @WR ⟨P,H,ops,rest,Q,dst⟩ A (aW P (au H) ⟨d,op,ty, "", #[],none⟩ A.eval A.h):=by
 rw[<-im P (au H) d op ty pos after g];exact iG _ _
theorem E6(k)(hs)(B)(Y):@WB ⟨λ_=>@WD ⟨k⟩ hs B,Y⟩ true=@WD ⟨k⟩ hs B:=gV _ _
theorem BO(k)(hs)(d)(X):@WB ⟨X,λ_=>@mG ⟨k⟩ hs A d⟩ false=@mG ⟨k⟩ hs A d:=iG _ _
section
variable (ops:Array Oper) (rest:List Oper) (hs:Heap) (dst:Option Tmp) (op:Op) (ty:TypeId) (pos:String) (after:Array Edge) (g:Option (Nat×Bool))
theorem K5:@mG ⟨P,H,ops,rest,Q,⟨dst,op,ty,pos,after,g⟩⟩ hs A .bar=@Hl ⟨P,H,ops,rest,Q,⟨dst,op,ty,pos,after,g⟩⟩ A (aW P (au H) ⟨dst,op,ty, "", #[],none⟩ A.eval A.h):=by
 rw[<-im P (au H) dst op ty pos after g];exact propext Iff.rfl
theorem Hj:@mG ⟨P,H,ops,rest,Q,⟨dst,op,ty,pos,after,g⟩⟩ hs A .alloc=@N6 ⟨P,H,ops,rest,Q,⟨dst,op,ty,pos,after,g⟩⟩ hs A (aW P (au H) ⟨dst,op,ty, "", #[],none⟩ A.eval A.h):=by
 rw[<-im P (au H) dst op ty pos after g];exact propext Iff.rfl
theorem K6(t:Nat):@mG ⟨P,H,ops,rest,Q,⟨dst,op,ty,pos,after,g⟩⟩ hs A (.app t)=if kb t=true then @Qf ⟨P,H,ops,rest,Q,⟨dst,op,ty,pos,after,g⟩⟩ (dE op) hs A (aW P (au H) ⟨dst,op,ty, "", #[],none⟩ A.eval (bD hs A.h)) else @N3 ⟨P,H,ops,rest,Q,⟨dst,op,ty,pos,after,g⟩⟩ hs A (aW P (au H) ⟨dst,op,ty, "", #[],none⟩ A.eval A.h):=by
 rw[<-im P (au H) dst op ty pos after g,<-im P (au H) dst op ty pos after g];show mK P t _ hs A.h _ _=_;unfold mK;split
 .exact propext Iff.rfl
 .exact propext Iff.rfl
theorem K0:@mG ⟨P,H,ops,rest,Q,⟨dst,op,ty,pos,after,g⟩⟩ hs A .thr=@Qe ⟨P,H,ops,rest,Q,⟨dst,op,ty,pos,after,g⟩⟩ hs A (aW P (au H) ⟨dst,op,ty, "", #[],none⟩ A.eval A.h):=by
 rw[<-im P (au H) dst op ty pos after g];exact propext Iff.rfl
theorem K4:@mG ⟨P,H,ops,rest,Q,⟨dst,op,ty,pos,after,g⟩⟩ hs A .cal=@N4 ⟨P,H,ops,rest,Q,⟨dst,op,ty,pos,after,g⟩⟩ hs A (aW P (au H) ⟨dst,op,ty, "", #[],none⟩ A.eval A.h):=by
 rw[<-im P (au H) dst op ty pos after g];exact propext Iff.rfl
theorem Hi:@mG ⟨P,H,ops,rest,Q,⟨dst,op,ty,pos,after,g⟩⟩ hs A .quiet=@Dy ⟨P,H,ops,rest,Q,⟨dst,op,ty,pos,after,g⟩⟩ hs A.h A (aW P (au H) ⟨dst,op,ty, "", #[],none⟩ A.eval A.h):=by
 rw[<-im P (au H) dst op ty pos after g];exact propext Iff.rfl
theorem K3:@mG ⟨P,H,ops,rest,Q,⟨dst,op,ty,pos,after,g⟩⟩ hs A .low=@Dy ⟨P,H,ops,rest,Q,⟨dst,op,ty,pos,after,g⟩⟩ hs hs A (aW P (au H) ⟨dst,op,ty, "", #[],none⟩ A.eval hs):=by
 rw[<-im P (au H) dst op ty pos after g];exact propext Iff.rfl
theorem IU(j sz):@mG ⟨P,H,ops,rest,Q,⟨dst,op,ty,pos,after,g⟩⟩ hs A (.slot j sz)=@N2 ⟨P,H,ops,rest,Q,⟨dst,op,ty,pos,after,g⟩⟩ hs A j sz (fo P A.eval op):=propext Iff.rfl
theorem K1(T)(a x):@mG ⟨P,H,ops,rest,Q,⟨dst,.store T a x,ty,pos,after,g⟩⟩ hs A .sto=@N5 ⟨P,H,ops,rest,Q,⟨dst,.store T a x,ty,pos,after,g⟩⟩ hs A T (A.eval a) (A.eval x):=propext Iff.rfl
theorem K2(T)(a x):@mG ⟨P,H,ops,rest,Q,⟨dst,.store T a x,ty,pos,after,g⟩⟩ hs A .nop=(fi P T (A.eval a) (A.eval x) A.h=.skip A.h/\@WD ⟨P,H,ops,rest,Q⟩ hs (A.put dst (.p (.tuple [])) A.h)):=propext Iff.rfl
theorem KZ(T)(y)(id ver i k):@N5 ⟨P,H,ops,rest,Q,⟨dst,op,ty,pos,after,g⟩⟩ hs A T (.ptr id ver i k) y =
  (eG hs id=true/\@N1 ⟨P,H,ops,rest,Q,⟨dst,op,ty,pos,after,g⟩⟩ hs A (fi P T (.ptr id ver i k) y A.h)):=propext Iff.rfl
theorem IS(h):@N1 ⟨P,H,ops,rest,Q,⟨dst,op,ty,pos,after,g⟩⟩ hs A (.skip h)=@WD ⟨P,H,ops,rest,Q⟩ hs (A.put dst (.p (.tuple [])) h):=propext Iff.rfl
theorem IT(j sz)(z):@N2 ⟨P,H,ops,rest,Q,⟨dst,op,ty,pos,after,g⟩⟩ hs A j sz (some z) =
  (z.cells.map (·.length)=some sz/\eG hs (hs.length-1-j)=true/\A.h[hs.length-1-j]?=some (.row sz [])/\@WD ⟨P,H,ops,rest,Q⟩ hs (A.put dst (.ptr (hs.length-1-j) 1 0 0) (A.h.set (hs.length-1-j) (.row sz [z])))):=propext Iff.rfl
theorem K7(v)(h):@Hl ⟨P,H,ops,rest,Q,⟨dst,op,ty,pos,after,g⟩⟩ A (.val v h)=@WD ⟨P,H,ops,rest,Q⟩ (A.put dst v h).h (A.put dst v h):=propext Iff.rfl
theorem IV(h):@Hl ⟨P,H,ops,rest,Q,⟨dst,op,ty,pos,after,g⟩⟩ A (.skip h)=@WD ⟨P,H,ops,rest,Q⟩ (A.put dst (.p (.tuple [])) h).h (A.put dst (.p (.tuple [])) h):=propext Iff.rfl
theorem Hk(v):@Hl ⟨P,H,ops,rest,Q,⟨dst,op,ty,pos,after,g⟩⟩ A (.panic v)=@WQ ⟨Q⟩ (.panic v) A:=propext Iff.rfl
theorem K8(v)(h):@N6 ⟨P,H,ops,rest,Q,⟨dst,op,ty,pos,after,g⟩⟩ hs A (.val v h)=((∃t,h=A.h++t)/\@WD ⟨P,H,ops,rest,Q⟩ hs (A.put dst v h)):=propext Iff.rfl
theorem KY(v)(h):@N3 ⟨P,H,ops,rest,Q,⟨dst,op,ty,pos,after,g⟩⟩ hs A (.val v h)=(Jl hs A.h h/\@WD ⟨P,H,ops,rest,Q⟩ hs (A.put dst v h)):=propext Iff.rfl
theorem KW(v)(h0):@Dy ⟨P,H,ops,rest,Q,⟨dst,op,ty,pos,after,g⟩⟩ hs h0 A (.val v h0)=@WD ⟨P,H,ops,rest,Q⟩ hs (A.put dst v A.h):=
 propext ⟨λh=>h.2,λh=>⟨rfl,h⟩⟩
end
end
variable {P:Program}
def rx (M:Nat->Prop) (w:World) (cargs:Array Value) (pargs:List PV):Prop:=cargs.size=pargs.length/\∀(i:Nat) (c:PV),pargs[i]?=some c->RepP M w (cargs.getD i undef) c
def PCall (P:Program) (f:FuncId) (pargs:List PV) (v:PV):Prop:=
 ∀(M0:Nat->Prop) (w:World) (cargs:Array Value),(∀b,M0 b->b<w.heap.size)->s4 P w->rx M0 w cargs pargs ->
  (∀w',(callFunc f cargs).run P w'=.ok (.enter f cargs) w') /\
  Calls P f cargs w λe w'=>∃v',e=.returned v'/\RepP M0 w' v' v/\Fr [] w w'
theorem tr{M0:Nat->Prop}{w:World}(h:∀b,M0 b->b<w.heap.size)(hg:s4 P w):HOk P M0 ⟨[],[],w⟩ where
 gl:=⟨hg,λb _ hb=>by simp[Own]at hb⟩
 len:=rfl
 lt:=λb hb=>by simp[Own]at hb
 m0:=λb hb=>⟨h b hb,by simp[Own]⟩
 inj:=λi j b hi=>by simp at hi
 obj:=λid o ho=>by simp at ho
theorem Cd(hD:eZ P){H}{f}{fn}{c}{pargs}{v}{rs}{n}(hf:P.funcs[f]?=some fn)(hb:fn.body=some c)(hrs:fn.results.toList=rs)(hn:fn.ntmps=n)(hok:dv H fn=true)
  (hlen:pargs.length<=n) (hw:SW P H c (jv P rs 0 (λ_ r _=>r=.ret (.p v))) (fZ n .no (pargs.map .p) [])):PCall P f pargs v:=by
 intro M0 w cargs hM hg ha;have ha':cK (Rep M0 ⟨[],[],w⟩) cargs (pargs.map .p):=by
  refine⟨by simpa using ha.1,λi c hc=>?_⟩;simp only[bU,bx]at hc;obtain⟨q,hq,rfl⟩:=hc;exact ar ((ha.2 i q hq).mono (λ_ _ _=>rfl) (λb hb=>by
   rcases hb with hb|hb
   .exact .inl hb
   .simp[Own]at hb))
 have:=tT hD (h:=[]) (R:=λr _=>r=.ret (.p v)) hf hb hrs hn hok (by simpa using hlen) hw M0 [] w cargs (tr hM hg) ha';refine⟨this.1,this.2.mono λe w' h=>?_⟩;obtain⟨r,h',m',rfl,hev,hk,hend⟩:=h
 cases e with
 |returned v'=>exact⟨v',rfl,RepP.less (show RepP (Avoid M0 m') w' v' v from hend) (λb hb=>.inl hb),hev.fr⟩
 |panicked ch=>exact hend.elim
 |outgrown=>exact hend.elim
theorem Cc(hD:eZ P){H}{f}{fn}{c}{pargs}{v}{rs}{n}(hf:P.funcs[f]?=some fn)(hb:fn.body=some c)(hrs:fn.results.toList=rs)(hn:fn.ntmps=n)(hok:dv H fn=true)
  (hlen:pargs.length<=n) (hw:wp P H c (jv P rs 0 (λ_ r _=>r=.ret (.p v))) (fZ n .no (pargs.map .p) [])):PCall P f pargs v:=
 Cd hD hf hb hrs hn hok hlen (DJ hD hw)
theorem sF{M0}{S}(hS:HOk P M0 S){w'}(h:Fr [] S.w w'):HOk P M0 ⟨S.m,S.h,w'⟩/\Ev S.h.length S ⟨S.m,S.h,w'⟩:=by
 have hall:∀b,b<S.w.heap.size->w'.heap[b]?=S.w.heap[b]?:=λb hb=>h.block b hb (by simp[Own])
 have hev:Ev S.h.length S ⟨S.m,S.h,w'⟩:=
  {fr:=⟨h.os,h.tape,h.output,h.size,λb hb _=>hall b hb,h.shape⟩
   sub:=λb hb=>.inl hb
   obj:=λid o _ ho=>⟨o,ho,ObjEv.refl _ _⟩ }
 exact⟨
  {len:=hS.len
   lt:=λb hb=>hP (hS.lt b hb) h.size
   m0:=λb hb=>⟨hP (hS.m0 b hb).1 h.size,(hS.m0 b hb).2⟩
   inj:=hS.inj
   gl:=hev.glob hS.gl
   obj:=λid o ho=>(hS.obj id o ho).keep hev λb hb=>hall b (hS.lt b (aV (cp hb))) },hev⟩
theorem vF{f}{pargs}{v}{h}(hc:PCall P f pargs v):aN P f (pargs.map .p) h (λr h'=>r=.ret (.p v)/\h'=h):=by
 intro M0 m w cargs hS ha;have hM:∀b,Avoid M0 m b->b<w.heap.size:=λb hb=>by
  rcases hb with hb|hb
  .exact(hS.m0 b hb).1
  .exact hS.lt b hb
 have hargs:rx (Avoid M0 m) w cargs pargs:=by
  refine⟨by simpa using ha.1,λi c hi=>?_⟩;have:=ha.2 i (.p c) (by simp[hi]);exact this
 obtain⟨h1,h2⟩:=hc (Avoid M0 m) w cargs hM hS.gl.1 hargs;refine⟨h1,h2.mono λe w' h=>?_⟩;obtain⟨v',rfl,hv,hfr⟩:=h;obtain⟨hk,hev⟩:=sF hS hfr;exact⟨.ret (.p v),_,m,⟨rfl,rfl⟩,hev,hk,hv⟩
theorem aN.mono{f}{args}{h}{R R'}(hc:aN P f args h R)(hr:∀r h',R r h'->R' r h'):aN P f args h R':=
 λM0 m w cargs hS ha=>let ⟨h1,h2⟩:=hc M0 m w cargs hS ha
  ⟨h1,h2.mono λ_ _ hb=>let ⟨r,h',m',hR,rest⟩:=hb;⟨r,h',m',hr r h' hR,rest⟩⟩
theorem aa{P}{H}{ops}{rest}{Q}{dst}{A}{f}{args}{pargs}{v}(hc:PCall P f pargs v)(ha:args=pargs.map .p)
  (h:@WO ⟨P,H,ops,rest,Q⟩ (A.put dst (.p v) A.h)):@WF ⟨P,H,ops,rest,Q,dst⟩ A f args:=by
 subst ha;refine(vF (h:=A.h) hc).mono λr h' hr=>?_;obtain⟨rfl,rfl⟩:=hr;exact h
theorem ao{P}{H}{ops}{rest}{Q}{o}{hs h0}{A}{f}{args}{pargs}{v}(hc:PCall P f pargs v)(ha:args=pargs.map .p)
  (h:@WD ⟨P,H,ops,rest,Q⟩ hs (A.put o.dst (.p v) A.h)):@Dy ⟨P,H,ops,rest,Q,o⟩ hs h0 A (.call f args):=by
 subst ha;exact⟨.p v,λ_ _=>vF hc,h⟩
end Abs
end Go.Proofs.YtmndpldajflenaaGreatDoor
