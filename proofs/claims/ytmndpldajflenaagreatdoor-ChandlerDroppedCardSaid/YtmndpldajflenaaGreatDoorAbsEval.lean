/- THE WALK OF THE ABSTRACT MACHINE BY REWRITING: what is not to be looked into stands in pla -/
import Derived.Test.YtmndpldajflenaaGreatDoorAbsDraw
set_option linter.all false
namespace Go.Proofs.YtmndpldajflenaaGreatDoor
namespace Abs
class Bx (α:Type) where
 val:α
abbrev Cont:=Ex->AAct->Prop
structure CodeK where
 P:Program
 H:Hints
 c:Code
 Q:Cont
structure OpsK where
 P:Program
 H:Hints
 ops:Array Oper
 rest:List Oper
 Q:Cont
structure OpK where
 P:Program
 H:Hints
 ops:Array Oper
 rest:List Oper
 Q:Cont
 dst:Option Tmp
structure DrK where
 P:Program
 H:Hints
 ops:Array Oper
 rest:List Oper
 Q:Cont
structure DOpK where
 P:Program
 H:Hints
 ops:Array Oper
 rest:List Oper
 Q:Cont
 op:Oper
def W [k:Bx CodeK] (A:AAct):Prop:=wp k.val.P k.val.H k.val.c k.val.Q A
def WO [k:Bx OpsK] (A:AAct):Prop:=iu k.val.P k.val.H k.val.ops k.val.Q k.val.rest A
def WQ [k:Bx Cont] (e:Ex) (A:AAct):Prop:=k.val e A
def WR [k:Bx OpK] (A:AAct) (r:OR):Prop:=kt k.val.P A k.val.dst (iu k.val.P k.val.H k.val.ops k.val.Q k.val.rest) k.val.Q r
def WB [k:Bx ((Unit->Prop)×(Unit->Prop))] (b:Bool):Prop:=FA b k.val.1 k.val.2
def WN [k:Bx ((Unit->Prop)×(Unit->Prop))] (b:Option Bool):Prop:=ra k.val.1 k.val.2 b
def WC [k:Bx ((Unit->Prop)×(Unit->Prop))] (v:AV):Prop:=CS k.val.1 k.val.2 v
def WF [k:Bx OpK] (A:AAct) (f:FuncId) (args:List AV):Prop:=kt k.val.P A k.val.dst (iu k.val.P k.val.H k.val.ops k.val.Q k.val.rest) k.val.Q (.call f args)
def WD [k:Bx DrK] (hs:Heap) (A:AAct):Prop:=bE k.val.P k.val.H k.val.ops k.val.Q k.val.rest hs A
def o7 [k:Bx DOpK] (hs:Heap) (A:AAct) (d:DC):Prop:=
 SC (λ_=>kt k.val.P A k.val.op.dst (λB=>bE k.val.P k.val.H k.val.ops k.val.Q k.val.rest B.h B) k.val.Q (bh k.val.P (aE k.val.H) k.val.op A.eval A.h))
   (λ_=>AP A.h (λv h=>bE k.val.P k.val.H k.val.ops k.val.Q k.val.rest hs (A.put k.val.op.dst v h)) (bh k.val.P (aE k.val.H) k.val.op A.eval A.h))
   (λ_=>wh k.val.P A.h (λv=>bE k.val.P k.val.H k.val.ops k.val.Q k.val.rest hs (A.put k.val.op.dst v A.h)) (bh k.val.P (aE k.val.H) k.val.op A.eval A.h))
   (λ_=>wh k.val.P hs (λv=>bE k.val.P k.val.H k.val.ops k.val.Q k.val.rest hs (A.put k.val.op.dst v A.h)) (bh k.val.P (aE k.val.H) k.val.op A.eval hs))
   (λj sz=>rh hs A.h j sz (λv h=>bE k.val.P k.val.H k.val.ops k.val.Q k.val.rest hs (A.put k.val.op.dst v h)) (gG k.val.P A.eval k.val.op.op))
   (λ_=>ul k.val.P hs A.h A.eval (λh=>bE k.val.P k.val.H k.val.ops k.val.Q k.val.rest hs (A.put k.val.op.dst (.p (.tuple [])) h)) k.val.op.op)
   (λ_=>uA k.val.P A.h A.eval (bE k.val.P k.val.H k.val.ops k.val.Q k.val.rest hs (A.put k.val.op.dst (.p (.tuple [])) A.h)) k.val.op.op)
   (λt=>pm k.val.P t (eU k.val.op.op) hs A.h (λv h=>bE k.val.P k.val.H k.val.ops k.val.Q k.val.rest hs (A.put k.val.op.dst v h)) (λh=>bh k.val.P (aE k.val.H) k.val.op A.eval h))
   (λ_=>wT k.val.P k.val.Q A (λv=>bE k.val.P k.val.H k.val.ops k.val.Q k.val.rest hs (A.put k.val.op.dst v A.h)) (bh k.val.P (aE k.val.H) k.val.op A.eval A.h))
   (λ_=>qK k.val.P k.val.H k.val.Q hs A (λv h=>bE k.val.P k.val.H k.val.ops k.val.Q k.val.rest hs (A.put k.val.op.dst v h)) (bh k.val.P (aE k.val.H) k.val.op A.eval A.h))
   d
def UU [k:Bx DOpK] (hs:Heap) (A:AAct) (j sz:Nat) (z:Option AV):Prop:=rh hs A.h j sz (λv h=>bE k.val.P k.val.H k.val.ops k.val.Q k.val.rest hs (A.put k.val.op.dst v h)) z
def UX [k:Bx DOpK] (hs:Heap) (A:AAct) (T:TypeId) (a y:AV):Prop:=
 match a with
 |.ptr id ver i o=>fI hs id=true/\pD (λh=>bE k.val.P k.val.H k.val.ops k.val.Q k.val.rest hs (A.put k.val.op.dst (.p (.tuple [])) h)) (gC k.val.P T (.ptr id ver i o) y A.h)
 |_=>False
def UT [k:Bx DOpK] (hs:Heap) (A:AAct) (r:OR):Prop:=pD (λh=>bE k.val.P k.val.H k.val.ops k.val.Q k.val.rest hs (A.put k.val.op.dst (.p (.tuple [])) h)) r
def Md [k:Bx DOpK] (A:AAct) (r:OR):Prop:=kt k.val.P A k.val.op.dst (λB=>bE k.val.P k.val.H k.val.ops k.val.Q k.val.rest B.h B) k.val.Q r
def UY [k:Bx DOpK] (hs:Heap) (A:AAct) (r:OR):Prop:=AP A.h (λv h=>bE k.val.P k.val.H k.val.ops k.val.Q k.val.rest hs (A.put k.val.op.dst v h)) r
def UV [k:Bx DOpK] (hs:Heap) (A:AAct) (r:OR):Prop:=Fa hs A.h (λv h=>bE k.val.P k.val.H k.val.ops k.val.Q k.val.rest hs (A.put k.val.op.dst v h)) r
def O2 [k:Bx DOpK] (ap:Bool) (hs:Heap) (A:AAct) (r:OR):Prop:=mb k.val.P ap hs A.h (λv h=>bE k.val.P k.val.H k.val.ops k.val.Q k.val.rest hs (A.put k.val.op.dst v h)) r
def L' [k:Bx DOpK] (hs:Heap) (A:AAct) (r:OR):Prop:=wT k.val.P k.val.Q A (λv=>bE k.val.P k.val.H k.val.ops k.val.Q k.val.rest hs (A.put k.val.op.dst v A.h)) r
def Fo [k:Bx DOpK] (hs h0:Heap) (A:AAct) (r:OR):Prop:=wh k.val.P h0 (λv=>bE k.val.P k.val.H k.val.ops k.val.Q k.val.rest hs (A.put k.val.op.dst v A.h)) r
def UW [k:Bx DOpK] (hs:Heap) (A:AAct) (r:OR):Prop:=qK k.val.P k.val.H k.val.Q hs A (λv h=>bE k.val.P k.val.H k.val.ops k.val.Q k.val.rest hs (A.put k.val.op.dst v h)) r
def H0:Hints:=λ_=>.std
def ez:List (Nat×Hint)->Hints
 |[],_=>.std
 |(k,h)::l,t=>if t=k then h else ez l t
theorem K9(t):ez [] t=.std:=rfl
theorem IU(k)(h)(l)(t):ez ((k,h)::l) t=if t=k then h else ez l t:=rfl
section
variable (P:Program) (H:Hints) (Q:Cont) (A:AAct)
theorem UP(c):wp P H c Q A=@W ⟨P,H,c,Q⟩ A:=propext Iff.rfl
theorem Tg:@W ⟨P,H,.skip,Q⟩ A=@WQ ⟨Q⟩ .normal A:=propext Iff.rfl
theorem Og(i)(l):@W ⟨P,H,.region i ⟨l⟩ false,Q⟩ A=@WO ⟨P,H,⟨l⟩,l,Q⟩ A:=propext Iff.rfl
theorem HI(i)(l):@W ⟨P,H,.region i ⟨l⟩ true,Q⟩ A=@WD ⟨P,H,⟨l⟩,xd H l,Q⟩ (nh H l A) (pQ H l A):=propext Iff.rfl
def Hg:Hint->Bool
 |.slot _ _=>true
 |_=>false
theorem aO(i)(l)(h:Hg (H 5000000)=false):@W ⟨P,H,.region i ⟨l⟩ true,Q⟩ A=@WD ⟨P,H,⟨l⟩,l,Q⟩ (nh H l A) (pQ H l A):=by
 have e:xd H l=l:=by
  unfold xd;cases hh:H 5000000<;>rw[hh]at h<;>first|rfl|cases h
 rw[HI,e]
theorem xz{o}:(∀j sz,bA H0 o≠.slot j sz)/\bA H0 o≠.sto/\∀t,bA H0 o≠.app t:=by
 have a:∀op,rd H0 op=.bar:=by
  intro op;unfold rd;split
  .rfl
  .rfl
 unfold bA;split
 .rw[a];exact⟨λj sz=>by simp,by simp,λt=>by simp⟩
 .show (∀j sz,(if oT o.op=true then DC.alloc else if cv o.op=true then .quiet else .bar)≠.slot j sz)/\(if oT o.op=true then DC.alloc else if cv o.op=true then .quiet else .bar)≠.sto/\∀t,(if oT o.op=true then DC.alloc else if cv o.op=true then .quiet else .bar)≠.app t;split
  .exact⟨λj sz=>by simp,by simp,λt=>by simp⟩
  .split
   .exact⟨λj sz=>by simp,by simp,λt=>by simp⟩
   .exact⟨λj sz=>by simp,by simp,λt=>by simp⟩
theorem Bg:∀l,ri H0 l=[]
 |[]=>rfl
 |o::l=>by
  unfold ri;split
  .rename_i j sz h;exact absurd h (xz.1 j sz)
  .exact Bg l
theorem x7(T):∀l,lG H0 T l=[]
 |[]=>rfl
 |o::l=>by
  unfold lG;split
  .rename_i h _;exact absurd h xz.2.1
  .rename_i h;exact absurd h (xz.2.2 _)
  .exact x7 T l
theorem Tj(i)(l):@W ⟨P,H0,.region i ⟨l⟩ true,Q⟩ A=@WD ⟨P,H0,⟨l⟩,l,Q⟩ A.h A:=by
 rw[aO _ _ _ _ _ _ rfl];unfold nh pQ vF;rw[Bg,x7];simp[td,Iv,H0]
theorem UN(a b):@W ⟨P,H,.seq a b,Q⟩ A=@W ⟨P,H,a,eH (wp P H b Q) Q⟩ A:=propext Iff.rfl
theorem Tk(c)(x y):@W ⟨P,H,.cond c x y,Q⟩ A=@WC ⟨λ_=>wp P H x Q A,λ_=>wp P H y Q A⟩ (A.eval c):=propext Iff.rfl
theorem Q2(id)(b):@W ⟨P,H,.block id b,Q⟩ A=@W ⟨P,H,b,lR id Q⟩ A:=propext Iff.rfl
theorem QX(b):@W ⟨P,H,.scope b,Q⟩ A=@W ⟨P,H,b,Q⟩ A:=propext Iff.rfl
theorem QZ(l):@W ⟨P,H,.label l,Q⟩ A=@WQ ⟨Q⟩ .normal A:=propext Iff.rfl
theorem Ti(id):@W ⟨P,H,.exit id,Q⟩ A=@WQ ⟨Q⟩ (.exit id) A:=propext Iff.rfl
theorem UO:@W ⟨P,H,.ret,Q⟩ A=@WQ ⟨Q⟩ .ret A:=propext Iff.rfl
theorem Cx(b)(R):@WQ ⟨eH (wp P H b Q) R⟩ .normal A=@W ⟨P,H,b,Q⟩ A:=propext Iff.rfl
theorem GJ(K)(j):@WQ ⟨eH K Q⟩ (.exit j) A=@WQ ⟨Q⟩ (.exit j) A:=propext Iff.rfl
theorem JC(K):@WQ ⟨eH K Q⟩ .ret A=@WQ ⟨Q⟩ .ret A:=propext Iff.rfl
theorem Fj(K)(v):@WQ ⟨eH K Q⟩ (.panic v) A=@WQ ⟨Q⟩ (.panic v) A:=propext Iff.rfl
theorem zE(id):@WQ ⟨lR id Q⟩ .normal A=@WQ ⟨Q⟩ .normal A:=propext Iff.rfl
theorem CB(id j):@WQ ⟨lR id Q⟩ (.exit j) A=if j=id then @WQ ⟨Q⟩ .normal A else @WQ ⟨Q⟩ (.exit j) A:=propext Iff.rfl
theorem Fm(id):@WQ ⟨lR id Q⟩ .ret A=@WQ ⟨Q⟩ .ret A:=propext Iff.rfl
theorem AY(id)(v):@WQ ⟨lR id Q⟩ (.panic v) A=@WQ ⟨Q⟩ (.panic v) A:=propext Iff.rfl
theorem Tn(ops):@WO ⟨P,H,ops,[],Q⟩ A=@WQ ⟨Q⟩ .normal A:=propext Iff.rfl
theorem jc(X Y):FA true X Y=X ():=propext ⟨λh=>h.1 rfl,λh=>⟨λ_=>h,λh'=>(by cases h')⟩⟩
theorem jZ(X Y):FA false X Y=Y ():=propext ⟨λh=>h.2 rfl,λh=>⟨λh'=>(by cases h'),λ_=>h⟩⟩
theorem jD(m)(dst)(op)(ty)(pos)(after)(g)(e)(h) :
  bh P m ⟨dst,op,ty,pos,after,g⟩ e h=bh P m ⟨dst,op,ty, "", #[],none⟩ e h:=by cases op<;>rfl
theorem Q6(ops)(rest)(dst)(op)(ty)(pos)(after) :
  @WO ⟨P,H,ops,⟨dst,op,ty,pos,after,none⟩::rest,Q⟩ A=@WR ⟨P,H,ops,rest,Q,dst⟩ A (bh P (aE H) ⟨dst,op,ty, "", #[],none⟩ A.eval A.h):=by
 rw[<-jD P (aE H) dst op ty pos after none];unfold WO WR;simp only[iu,bo,ra];exact jc _ _
theorem Ok(ops)(rest)(dst)(op)(ty)(pos)(after)(j)(b) :
  @WO ⟨P,H,ops,⟨dst,op,ty,pos,after,some (j,b)⟩::rest,Q⟩ A =
  @WN ⟨λ_=>kt P A dst (iu P H ops Q rest) Q (bh P (aE H) ⟨dst,op,ty,pos,after,some (j,b)⟩ A.eval A.h),
    λ_=>iu P H ops Q rest (A.put dst (.p (.tuple [])) A.h)⟩ (p0 A ((ops[j]?).bind (·.dst)) b):=propext Iff.rfl
theorem Q7(X Y)(b):@WN ⟨X,Y⟩ (some b)=@WB ⟨X,Y⟩ b:=propext Iff.rfl
theorem Rp(X Y)(b):@WC ⟨X,Y⟩ (.p (.bool b))=@WB ⟨X,Y⟩ b:=propext Iff.rfl
theorem Tp(X Y)(b):@WB ⟨X,Y⟩ (!b)=@WB ⟨Y,X⟩ b:=by
 cases b
 .exact(jc X Y).trans (jZ Y X).symm
 .exact(jZ X Y).trans (jc Y X).symm
theorem JH(ops)(rest)(d dst)(op)(ty)(pos)(after)(g)(Y) :
  @WB ⟨λ_=>kt P A dst (iu P H ops Q rest) Q (bh P (aE H) ⟨d,op,ty,pos,after,g⟩ A.eval A.h),Y⟩ true =
   @WR ⟨P,H,ops,rest,Q,dst⟩ A (bh P (aE H) ⟨d,op,ty, "", #[],none⟩ A.eval A.h):=by
 rw[<-jD P (aE H) d op ty pos after g];exact jc _ _
theorem GN(X)(ops)(l)(B):@WB ⟨X,λ_=>iu P H ops Q l B⟩ false=@WO ⟨P,H,ops,l,Q⟩ B:=jZ _ _
theorem JF(c)(Y):@WB ⟨λ_=>wp P H c Q A,Y⟩ true=@W ⟨P,H,c,Q⟩ A:=jc _ _
theorem GL(c)(X):@WB ⟨X,λ_=>wp P H c Q A⟩ false=@W ⟨P,H,c,Q⟩ A:=jZ _ _
theorem Tl(ops)(rest)(dst)(v)(h):@WR ⟨P,H,ops,rest,Q,dst⟩ A (.val v h)=@WO ⟨P,H,ops,rest,Q⟩ (A.put dst v h):=propext Iff.rfl
theorem Q3(ops)(rest)(dst)(h):@WR ⟨P,H,ops,rest,Q,dst⟩ A (.skip h)=@WO ⟨P,H,ops,rest,Q⟩ (A.put dst (.p (.tuple [])) h):=propext Iff.rfl
theorem Q4(k)(f)(args):@WR ⟨k⟩ A (.call f args)=@WF ⟨k⟩ A f args:=propext Iff.rfl
theorem Oi(ops)(rest)(dst)(v):@WR ⟨P,H,ops,rest,Q,dst⟩ A (.panic v)=@WQ ⟨Q⟩ (.panic v) A:=propext Iff.rfl
theorem JD(rs)(n)(R):@WQ ⟨iq P rs n R⟩ .ret A=(A.bs=n/\ca P rs (R A.rc) A.tmps A.df .ret A.h):=propext Iff.rfl
theorem CA(rs)(n)(R):@WQ ⟨iq P rs n R⟩ .normal A=(A.bs=n/\ca P rs (R A.rc) A.tmps A.df .ret A.h):=propext Iff.rfl
theorem Fl(rs)(n)(R)(v):@WQ ⟨iq P rs n R⟩ (.panic v) A=(A.bs=n/\ca P rs (R A.rc) A.tmps A.df (.pan v) A.h):=propext Iff.rfl
def rx:AV->Option (List AV)->Option (List AV)
 |v,some l=>if v.single=true then some (v::l) else none
 |_,none=>none
def OT:OR->Option (List AV)->Option (List AV)
 |.val v _,r=>rx v r
 |_,_=>none
def RP (R:AEnd->Heap->Prop) (h:Heap):Option AV->Prop
 |some v=>R (.ret v) h
 |none=>False
theorem KP(rs)(R)(T)(h):ca P rs R T [] .ret h=RP R h (nY (la P h T rs)):=propext Iff.rfl
theorem KQ(rs)(R)(T)(h)(v):ca P rs R T [] (.pan v) h=R (.panic v) h:=propext Iff.rfl
theorem Kf(R)(h)(v):RP R h (some v)=R (.ret v) h:=propext Iff.rfl
theorem Of(h)(T):la P h T []=some []:=rfl
theorem Oe(h)(T)(t)(rs):la P h T (.tmp t::rs)=rx (T t) (la P h T rs):=by
 rw[la.eq_2];cases a:la P h T rs<;>rfl
theorem L7(h)(T)(t)(ty)(rs):la P h T (.cell t ty::rs)=OT (nx P ty (T t) h) (la P h T rs):=by
 rw[la.eq_2];unfold JB;dsimp only;generalize la P h T rs=x;cases nx P ty (T t) h<;>cases x<;>rfl
theorem Qg(v)(l):rx (.p v) (some l)=some (.p v::l):=rfl
theorem Lr(i j k o)(l):rx (.ptr i j k o) (some l)=some (.ptr i j k o::l):=rfl
theorem Gb(i j k o)(l):rx (.slice i j k o) (some l)=some (.slice i j k o::l):=rfl
theorem Ls(cs)(l):rx (.agg cs) (some l)=some (.agg cs::l):=rfl
theorem I9(f)(a c)(l):rx (.func f a c) (some l)=some (.func f a c::l):=rfl
theorem Lt(v)(h)(r):OT (.val v h) r=rx v r:=rfl
theorem GF:nY (some [])=some (.p (.tuple [])):=rfl
theorem GE(v):nY (some [v])=some v:=rfl
theorem GD(v u)(l):nY (some (v::u::l))=some (pX (v::u::l)):=rfl
theorem aK{k}{b}(e:b=true->@WB ⟨k⟩ true)(a:b=false->@WB ⟨k⟩ false):@WB ⟨k⟩ b:=by
 cases b
 .exact a rfl
 .exact e rfl
theorem To(ops)(hs):@WD ⟨P,H,ops,[],Q⟩ hs A=@WQ ⟨Q⟩ .normal A:=propext Iff.rfl
theorem Q9(ops)(rest)(hs)(dst)(op)(ty)(pos)(after) :
  @WD ⟨P,H,ops,⟨dst,op,ty,pos,after,none⟩::rest,Q⟩ hs A=@o7 ⟨P,H,ops,rest,Q,⟨dst,op,ty,pos,after,none⟩⟩ hs A (bA H ⟨dst,op,ty, "", #[],none⟩):=by
 unfold WD o7;simp only[bE,bo,ra];exact jc _ _
theorem Ol(ops)(rest)(hs)(dst)(op)(ty)(pos)(after)(j)(b) :
  @WD ⟨P,H,ops,⟨dst,op,ty,pos,after,some (j,b)⟩::rest,Q⟩ hs A =
  @WN ⟨λ_=>@o7 ⟨P,H,ops,rest,Q,⟨dst,op,ty,pos,after,some (j,b)⟩⟩ hs A (bA H ⟨dst,op,ty, "", #[],none⟩),
    λ_=>@WD ⟨P,H,ops,rest,Q⟩ hs (A.put dst (.p (.tuple [])) A.h)⟩ (p0 A ((ops[j]?).bind (·.dst)) b):=propext Iff.rfl
theorem GK(k)(hs)(d)(Y):@WB ⟨λ_=>@o7 ⟨k⟩ hs A d,Y⟩ true=@o7 ⟨k⟩ hs A d:=jc _ _
theorem GM(k)(hs)(B)(X):@WB ⟨X,λ_=>@WD ⟨k⟩ hs B⟩ false=@WD ⟨k⟩ hs B:=jZ _ _
theorem Fq(ops)(l)(B)(Y):@WB ⟨λ_=>iu P H ops Q l B,Y⟩ true=@WO ⟨P,H,ops,l,Q⟩ B:=jc _ _
theorem Ft(ops)(rest)(d dst)(op)(ty)(pos)(after)(g)(X) :
  @WB ⟨X,λ_=>kt P A dst (iu P H ops Q rest) Q (bh P (aE H) ⟨d,op,ty,pos,after,g⟩ A.eval A.h)⟩ false =
   @WR ⟨P,H,ops,rest,Q,dst⟩ A (bh P (aE H) ⟨d,op,ty, "", #[],none⟩ A.eval A.h):=by
 rw[<-jD P (aE H) d op ty pos after g];exact jZ _ _
theorem JG(k)(hs)(B)(Y):@WB ⟨λ_=>@WD ⟨k⟩ hs B,Y⟩ true=@WD ⟨k⟩ hs B:=jc _ _
theorem Fs(k)(hs)(d)(X):@WB ⟨X,λ_=>@o7 ⟨k⟩ hs A d⟩ false=@o7 ⟨k⟩ hs A d:=jZ _ _
section
variable (ops:Array Oper) (rest:List Oper) (hs:Heap) (dst:Option Tmp) (op:Op) (ty:TypeId) (pos:String) (after:Array Edge) (g:Option (Nat×Bool))
theorem Rl:@o7 ⟨P,H,ops,rest,Q,⟨dst,op,ty,pos,after,g⟩⟩ hs A .bar=@Md ⟨P,H,ops,rest,Q,⟨dst,op,ty,pos,after,g⟩⟩ A (bh P (aE H) ⟨dst,op,ty, "", #[],none⟩ A.eval A.h):=by
 rw[<-jD P (aE H) dst op ty pos after g];exact propext Iff.rfl
theorem Mb:@o7 ⟨P,H,ops,rest,Q,⟨dst,op,ty,pos,after,g⟩⟩ hs A .alloc=@UY ⟨P,H,ops,rest,Q,⟨dst,op,ty,pos,after,g⟩⟩ hs A (bh P (aE H) ⟨dst,op,ty, "", #[],none⟩ A.eval A.h):=by
 rw[<-jD P (aE H) dst op ty pos after g];exact propext Iff.rfl
theorem Rm(t:Nat):@o7 ⟨P,H,ops,rest,Q,⟨dst,op,ty,pos,after,g⟩⟩ hs A (.app t)=if lY t=true then @O2 ⟨P,H,ops,rest,Q,⟨dst,op,ty,pos,after,g⟩⟩ (eU op) hs A (bh P (aE H) ⟨dst,op,ty, "", #[],none⟩ A.eval (bT hs A.h)) else @UV ⟨P,H,ops,rest,Q,⟨dst,op,ty,pos,after,g⟩⟩ hs A (bh P (aE H) ⟨dst,op,ty, "", #[],none⟩ A.eval A.h):=by
 rw[<-jD P (aE H) dst op ty pos after g,<-jD P (aE H) dst op ty pos after g];show pm P t _ hs A.h _ _=_;unfold pm;split
 .exact propext Iff.rfl
 .exact propext Iff.rfl
theorem HK{l:Heap}{v:AV}{r:OR}(e:r=.val v (bT hs A.h++l))(i:0<hs.length)(a:hs.length<=A.h.length)(k:@WD ⟨P,H,ops,rest,Q⟩ hs (A.put dst v (A.h++l))):@O2 ⟨P,H,ops,rest,Q,⟨dst,op,ty,pos,after,g⟩⟩ true hs A r:=by
 subst e;show mb _ _ _ _ _ _;simp only[mb,if_true];exact⟨⟨i,a⟩,.inl ⟨l,rfl⟩,by rw[lf a];exact k⟩
theorem HJ{id:Nat}{ob:AObj}{v:AV}{r:OR}(i:r=.val v ((bT hs A.h).set id ob))(l:0<hs.length)(j:hs.length<=A.h.length)(a:hs.length<=id)(k:@WD ⟨P,H,ops,rest,Q⟩ hs (A.put dst v (A.h.set id ob))):@O2 ⟨P,H,ops,rest,Q,⟨dst,op,ty,pos,after,g⟩⟩ true hs A r:=by
 subst i;show mb _ _ _ _ _ _;simp only[mb,if_true];exact⟨⟨l,j⟩,.inr ⟨id,ob,rfl,a⟩,by rw[mF (by rw[sE];intro e;have:=rv e;omega)];exact k⟩
theorem Fp{f:FuncId}{args:List AV}{v:AV}{id:Nat}(j:0<hs.length)(a:hs.length<=id)(i:∀h',bY (bT hs A.h) h'->ar P f args h' (λr e=>r=.ret v/\e=h'.set id .dead))(k:@WD ⟨P,H,ops,rest,Q⟩ hs (A.put dst v (A.h.set id .dead))):@O2 ⟨P,H,ops,rest,Q,⟨dst,op,ty,pos,after,g⟩⟩ false hs A (.call f args):=
 ⟨rfl,j,.inr ⟨v,id,a,i,k⟩⟩
theorem Rg:@o7 ⟨P,H,ops,rest,Q,⟨dst,op,ty,pos,after,g⟩⟩ hs A .thr=@L' ⟨P,H,ops,rest,Q,⟨dst,op,ty,pos,after,g⟩⟩ hs A (bh P (aE H) ⟨dst,op,ty, "", #[],none⟩ A.eval A.h):=by
 rw[<-jD P (aE H) dst op ty pos after g];exact propext Iff.rfl
theorem Rk:@o7 ⟨P,H,ops,rest,Q,⟨dst,op,ty,pos,after,g⟩⟩ hs A .cal=@UW ⟨P,H,ops,rest,Q,⟨dst,op,ty,pos,after,g⟩⟩ hs A (bh P (aE H) ⟨dst,op,ty, "", #[],none⟩ A.eval A.h):=by
 rw[<-jD P (aE H) dst op ty pos after g];exact propext Iff.rfl
theorem Ma:@o7 ⟨P,H,ops,rest,Q,⟨dst,op,ty,pos,after,g⟩⟩ hs A .quiet=@Fo ⟨P,H,ops,rest,Q,⟨dst,op,ty,pos,after,g⟩⟩ hs A.h A (bh P (aE H) ⟨dst,op,ty, "", #[],none⟩ A.eval A.h):=by
 rw[<-jD P (aE H) dst op ty pos after g];exact propext Iff.rfl
theorem Rj:@o7 ⟨P,H,ops,rest,Q,⟨dst,op,ty,pos,after,g⟩⟩ hs A .low=@Fo ⟨P,H,ops,rest,Q,⟨dst,op,ty,pos,after,g⟩⟩ hs hs A (bh P (aE H) ⟨dst,op,ty, "", #[],none⟩ A.eval hs):=by
 rw[<-jD P (aE H) dst op ty pos after g];exact propext Iff.rfl
theorem Ou(j sz):@o7 ⟨P,H,ops,rest,Q,⟨dst,op,ty,pos,after,g⟩⟩ hs A (.slot j sz)=@UU ⟨P,H,ops,rest,Q,⟨dst,op,ty,pos,after,g⟩⟩ hs A j sz (gG P A.eval op):=propext Iff.rfl
theorem Rh(T)(a x):@o7 ⟨P,H,ops,rest,Q,⟨dst,.store T a x,ty,pos,after,g⟩⟩ hs A .sto=@UX ⟨P,H,ops,rest,Q,⟨dst,.store T a x,ty,pos,after,g⟩⟩ hs A T (A.eval a) (A.eval x):=propext Iff.rfl
theorem Ri(T)(a x):@o7 ⟨P,H,ops,rest,Q,⟨dst,.store T a x,ty,pos,after,g⟩⟩ hs A .nop=(gC P T (A.eval a) (A.eval x) A.h=.skip A.h/\@WD ⟨P,H,ops,rest,Q⟩ hs (A.put dst (.p (.tuple [])) A.h)):=propext Iff.rfl
theorem Rf(T)(y)(id a i k):@UX ⟨P,H,ops,rest,Q,⟨dst,op,ty,pos,after,g⟩⟩ hs A T (.ptr id a i k) y =
  (fI hs id=true/\@UT ⟨P,H,ops,rest,Q,⟨dst,op,ty,pos,after,g⟩⟩ hs A (gC P T (.ptr id a i k) y A.h)):=propext Iff.rfl
theorem Om(h):@UT ⟨P,H,ops,rest,Q,⟨dst,op,ty,pos,after,g⟩⟩ hs A (.skip h)=@WD ⟨P,H,ops,rest,Q⟩ hs (A.put dst (.p (.tuple [])) h):=propext Iff.rfl
theorem On(j sz)(z):@UU ⟨P,H,ops,rest,Q,⟨dst,op,ty,pos,after,g⟩⟩ hs A j sz (some z) =
  (z.cells.map (·.length)=some sz/\fI hs (hs.length-1-j)=true/\A.h[hs.length-1-j]?=some (.row sz [])/\@WD ⟨P,H,ops,rest,Q⟩ hs (A.put dst (.ptr (hs.length-1-j) 1 0 0) (A.h.set (hs.length-1-j) (.row sz [z])))):=propext Iff.rfl
theorem Rn(v)(h):@Md ⟨P,H,ops,rest,Q,⟨dst,op,ty,pos,after,g⟩⟩ A (.val v h)=@WD ⟨P,H,ops,rest,Q⟩ (A.put dst v h).h (A.put dst v h):=propext Iff.rfl
theorem Ov(h):@Md ⟨P,H,ops,rest,Q,⟨dst,op,ty,pos,after,g⟩⟩ A (.skip h)=@WD ⟨P,H,ops,rest,Q⟩ (A.put dst (.p (.tuple [])) h).h (A.put dst (.p (.tuple [])) h):=propext Iff.rfl
theorem Mc(v):@Md ⟨P,H,ops,rest,Q,⟨dst,op,ty,pos,after,g⟩⟩ A (.panic v)=@WQ ⟨Q⟩ (.panic v) A:=propext Iff.rfl
theorem Ro(v)(h):@UY ⟨P,H,ops,rest,Q,⟨dst,op,ty,pos,after,g⟩⟩ hs A (.val v h)=((∃t,h=A.h++t)/\@WD ⟨P,H,ops,rest,Q⟩ hs (A.put dst v h)):=propext Iff.rfl
theorem Re(v)(h):@UV ⟨P,H,ops,rest,Q,⟨dst,op,ty,pos,after,g⟩⟩ hs A (.val v h)=(O1 hs A.h h/\@WD ⟨P,H,ops,rest,Q⟩ hs (A.put dst v h)):=propext Iff.rfl
theorem Ra(v)(a):@Fo ⟨P,H,ops,rest,Q,⟨dst,op,ty,pos,after,g⟩⟩ hs a A (.val v a)=@WD ⟨P,H,ops,rest,Q⟩ hs (A.put dst v A.h):=
 propext ⟨λh=>h.2,λh=>⟨rfl,h⟩⟩
end
end
variable {P:Program}
def oC (M:Nat->Prop) (w:World) (cargs:Array Value) (pargs:List PV):Prop:=cargs.size=pargs.length/\∀(i:Nat) (c:PV),pargs[i]?=some c->RepP M w (cargs.getD i undef) c
def af (P:Program) (f:FuncId) (pargs:List PV) (v:PV):Prop:=
 ∀(M0:Nat->Prop) (w:World) (cargs:Array Value),(∀b,M0 b->b<w.heap.size)->t7 P w->oC M0 w cargs pargs ->
  (∀w',(callFunc f cargs).run P w'=.ok (.enter f cargs) w') /\
  Calls P f cargs w λe w'=>∃v',e=.returned v'/\RepP M0 w' v' v/\Fr [] w w'
theorem pZ{M0:Nat->Prop}{w:World}(h:∀b,M0 b->b<w.heap.size)(l:t7 P w):HOk P M0 ⟨[],[],w⟩ where
 gl:=⟨l,λb _ a=>by simp[Own]at a⟩
 len:=rfl
 lt:=λb a=>by simp[Own]at a
 m0:=λb a=>⟨h b a,by simp[Own]⟩
 inj:=λi j b hi=>by simp at hi
 obj:=λid o e=>by simp at e
theorem wk(K:dI P){H}{f}{fn}{c}{a}{v}{rs}{n}(I:P.funcs[f]?=some fn)(o:fn.body=some c)(y:fn.results.toList=rs)(F:fn.ntmps=n)(hok:cy H fn=true)
  (u:a.length<=n) (hw:SW P H c (iq P rs 0 (λ_ r _=>r=.ret (.p v))) (start n .no (a.map .p) [])):af P f a v:=by
 intro M0 w l J G D;have A:dz (Rep M0 ⟨[],[],w⟩) l (a.map .p):=by
  refine⟨by simpa using D.1,λi c C=>?_⟩;simp only[cW,bC]at C;obtain⟨q,E,rfl⟩:=C;exact aC ((D.2 i q E).mono (λ_ _ _=>rfl) (λb o=>by
   rcases o with o|o
   .exact .inl o
   .simp[Own]at o))
 have:=wr K (h:=[]) (R:=λr _=>r=.ret (.p v)) I o y F hok (by simpa using u) hw M0 [] w l (pZ J G) A;refine⟨this.1,this.2.mono λe w' h=>?_⟩;obtain⟨r,h',m',rfl,z,L,j⟩:=h
 cases e with
 |returned v'=>exact⟨v',rfl,RepP.less (show RepP (Avoid M0 m') w' v' v from j) (λb o=>.inl o),z.fr⟩
 |panicked M=>exact j.elim
 |outgrown=>exact j.elim
theorem FV(j:dI P){H}{f}{fn}{c}{a}{v}{rs}{n}(o:P.funcs[f]?=some fn)(q:fn.body=some c)(i:fn.results.toList=rs)(l:fn.ntmps=n)(hok:cy H fn=true)
  (e:a.length<=n) (hw:wp P H c (iq P rs 0 (λ_ r _=>r=.ret (.p v))) (start n .no (a.map .p) [])):af P f a v:=
 wk j o q i l hok e (xW j hw)
theorem oX{M0}{S}(e:HOk P M0 S){w'}(h:Fr [] S.w w'):HOk P M0 ⟨S.m,S.h,w'⟩/\Ev S.h.length S ⟨S.m,S.h,w'⟩:=by
 have i:∀b,b<S.w.heap.size->w'.heap[b]?=S.w.heap[b]?:=λb a=>h.block b a (by simp[Own])
 have j:Ev S.h.length S ⟨S.m,S.h,w'⟩:=
  {fr:=⟨h.os,h.tape,h.output,h.size,λb a _=>i b a,h.shape⟩
   sub:=λb a=>.inl a
   obj:=λid o _ l=>⟨o,l,ObjEv.refl _ _⟩ }
 exact⟨
  {len:=e.len
   lt:=λb a=>gk (e.lt b a) h.size
   m0:=λb a=>⟨gk (e.m0 b a).1 h.size,(e.m0 b a).2⟩
   inj:=e.inj
   gl:=j.glob e.gl
   obj:=λid o l=>(e.obj id o l).keep j λb a=>i b (e.lt b (aG (cu a))) },j⟩
theorem pP{f}{a}{v}{h}(D:af P f a v):ar P f (a.map .p) h (λr h'=>r=.ret (.p v)/\h'=h):=by
 intro M0 m w j q z;have E:∀b,Avoid M0 m b->b<w.heap.size:=λb o=>by
  rcases o with o|o
  .exact(q.m0 b o).1
  .exact q.lt b o
 have l:oC (Avoid M0 m) w j a:=by
  refine⟨by simpa using z.1,λi c hi=>?_⟩;have:=z.2 i (.p c) (by simp[hi]);exact this
 obtain⟨G,F⟩:=D (Avoid M0 m) w j E q.gl.1 l;refine⟨G,F.mono λe w' h=>?_⟩;obtain⟨v',rfl,A,u⟩:=h;obtain⟨C,y⟩:=oX q u;exact⟨.ret (.p v),_,m,⟨rfl,rfl⟩,y,C,A⟩
theorem ar.mono{f}{args}{h}{R e}(j:ar P f args h R)(i:∀r h',R r h'->e r h'):ar P f args h e:=
 λM0 m w a q o=>let ⟨y,v⟩:=j M0 m w a q o
  ⟨y,v.mono λ_ _ l=>let ⟨r,h',m',u,rest⟩:=l;⟨r,h',m',i r h' u,rest⟩⟩
theorem ae{P}{H}{ops}{rest}{Q}{dst}{A}{f}{args}{a}{v}(i:af P f a v)(j:args=a.map .p)
  (h:@WO ⟨P,H,ops,rest,Q⟩ (A.put dst (.p v) A.h)):@WF ⟨P,H,ops,rest,Q,dst⟩ A f args:=by
 subst j;refine(pP (h:=A.h) i).mono λr h' e=>?_;obtain⟨rfl,rfl⟩:=e;exact h
theorem ax{P}{H}{ops}{rest}{Q}{o}{hs j}{A}{f}{args}{a}{v}(e:af P f a v)(i:args=a.map .p)
  (h:@WD ⟨P,H,ops,rest,Q⟩ hs (A.put o.dst (.p v) A.h)):@Fo ⟨P,H,ops,rest,Q,o⟩ hs j A (.call f args):=by
 subst i;exact⟨.p v,λ_ _=>pP e,h⟩
end Abs
end Go.Proofs.YtmndpldajflenaaGreatDoor
