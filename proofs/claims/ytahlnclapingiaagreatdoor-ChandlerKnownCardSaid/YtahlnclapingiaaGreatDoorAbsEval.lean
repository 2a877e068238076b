/-
  THE WALK OF THE ABSTRACT MACHINE BY REWRITING: what is not to be looked into stands in pla
-/
import Derived.Test.YtahlnclapingiaaGreatDoorAbsFunX
import Derived.Test.YtahlnclapingiaaGreatDoorAbsDraw
set_option linter.unusedSimpArgs false
set_option linter.unusedVariables false
namespace Go.Proofs.YtahlnclapingiaaGreatDoor
namespace Abs
class Bx (α:Type) where
 val:α
abbrev Cont:=Ex→AAct→Prop
structure CodeK where
 P:Program
 H:Hints
 c:Code
 Q:Cont
structure OpsK where
 P:Program
 H:Hints
 ops:Array Oper
 rest:List Oper
 Q:Cont
structure OpK where
 P:Program
 H:Hints
 ops:Array Oper
 rest:List Oper
 Q:Cont
 dst:Option Tmp
structure DrK where
 P:Program
 H:Hints
 ops:Array Oper
 rest:List Oper
 Q:Cont
structure DOpK where
 P:Program
 H:Hints
 ops:Array Oper
 rest:List Oper
 Q:Cont
 op:Oper
def W [k:Bx CodeK] (A:AAct):Prop:=wp k.val.P k.val.H k.val.c k.val.Q A
def WO [k:Bx OpsK] (A:AAct):Prop:=zer k.val.P k.val.H k.val.ops k.val.Q k.val.rest A
def WQ [k:Bx Cont] (e:Ex) (A:AAct):Prop:=k.val e A
def WR [k:Bx OpK] (A:AAct) (r:OR):Prop:=orK k.val.P A k.val.dst (zer k.val.P k.val.H k.val.ops k.val.Q k.val.rest) k.val.Q r
def WB [k:Bx ((Unit→Prop)×(Unit→Prop))] (b:Bool):Prop:=zuR b k.val.1 k.val.2
def WN [k:Bx ((Unit→Prop)×(Unit→Prop))] (b:Option Bool):Prop:=zke k.val.1 k.val.2 b
def WC [k:Bx ((Unit→Prop)×(Unit→Prop))] (v:AV):Prop:=zsy k.val.1 k.val.2 v
def WF [k:Bx OpK] (A:AAct) (f:FuncId) (args:List AV):Prop:=orK k.val.P A k.val.dst (zer k.val.P k.val.H k.val.ops k.val.Q k.val.rest) k.val.Q (.call f args)
def WD [k:Bx DrK] (hs:Heap) (A:AAct):Prop:=za0 k.val.P k.val.H k.val.ops k.val.Q k.val.rest hs A
def WDC [k:Bx DOpK] (hs:Heap) (A:AAct) (d:DC):Prop :=
 dcK (fun _=>orK k.val.P A k.val.op.dst (fun B=>za0 k.val.P k.val.H k.val.ops k.val.Q k.val.rest B.h B) k.val.Q (aOp k.val.P (zaz k.val.H) k.val.op A.eval A.h))
   (fun _=>zq0 A.h (fun v h=>za0 k.val.P k.val.H k.val.ops k.val.Q k.val.rest hs (A.put k.val.op.dst v h)) (aOp k.val.P (zaz k.val.H) k.val.op A.eval A.h))
   (fun _=>quK k.val.P A.h (fun v=>za0 k.val.P k.val.H k.val.ops k.val.Q k.val.rest hs (A.put k.val.op.dst v A.h)) (aOp k.val.P (zaz k.val.H) k.val.op A.eval A.h))
   (fun _=>quK k.val.P hs (fun v=>za0 k.val.P k.val.H k.val.ops k.val.Q k.val.rest hs (A.put k.val.op.dst v A.h)) (aOp k.val.P (zaz k.val.H) k.val.op A.eval hs))
   (fun j sz=>zkg hs A.h j sz (fun v h=>za0 k.val.P k.val.H k.val.ops k.val.Q k.val.rest hs (A.put k.val.op.dst v h)) (zdP k.val.P A.eval k.val.op.op))
   (fun _=>zmt k.val.P hs A.h A.eval (fun h=>za0 k.val.P k.val.H k.val.ops k.val.Q k.val.rest hs (A.put k.val.op.dst (.p (.tuple [])) h)) k.val.op.op)
   (fun _=>zmK k.val.P A.h A.eval (za0 k.val.P k.val.H k.val.ops k.val.Q k.val.rest hs (A.put k.val.op.dst (.p (.tuple [])) A.h)) k.val.op.op)
   (fun _=>zoS hs A.h (fun v h=>za0 k.val.P k.val.H k.val.ops k.val.Q k.val.rest hs (A.put k.val.op.dst v h)) (aOp k.val.P (zaz k.val.H) k.val.op A.eval A.h))
   (fun _=>zom k.val.P k.val.Q A (fun v=>za0 k.val.P k.val.H k.val.ops k.val.Q k.val.rest hs (A.put k.val.op.dst v A.h)) (aOp k.val.P (zaz k.val.H) k.val.op A.eval A.h))
   (fun _=>zj0 k.val.P k.val.H k.val.Q hs A (fun v h=>za0 k.val.P k.val.H k.val.ops k.val.Q k.val.rest hs (A.put k.val.op.dst v h)) (aOp k.val.P (zaz k.val.H) k.val.op A.eval A.h))
   d
def WDS [k:Bx DOpK] (hs:Heap) (A:AAct) (j sz:Nat) (z:Option AV):Prop:=zkg hs A.h j sz (fun v h=>za0 k.val.P k.val.H k.val.ops k.val.Q k.val.rest hs (A.put k.val.op.dst v h)) z
def WDK [k:Bx DOpK] (hs:Heap) (A:AAct) (T:TypeId) (a y:AV):Prop :=
 match a with
 |.ptr id ver i o=>zen hs id=true∧zja (fun h=>za0 k.val.P k.val.H k.val.ops k.val.Q k.val.rest hs (A.put k.val.op.dst (.p (.tuple [])) h)) (zdK k.val.P T (.ptr id ver i o) y A.h)
 |_=>False
def WDT [k:Bx DOpK] (hs:Heap) (A:AAct) (r:OR):Prop:=zja (fun h=>za0 k.val.P k.val.H k.val.ops k.val.Q k.val.rest hs (A.put k.val.op.dst (.p (.tuple [])) h)) r
def WDB [k:Bx DOpK] (A:AAct) (r:OR):Prop:=orK k.val.P A k.val.op.dst (fun B=>za0 k.val.P k.val.H k.val.ops k.val.Q k.val.rest B.h B) k.val.Q r
def WDA [k:Bx DOpK] (hs:Heap) (A:AAct) (r:OR):Prop:=zq0 A.h (fun v h=>za0 k.val.P k.val.H k.val.ops k.val.Q k.val.rest hs (A.put k.val.op.dst v h)) r
def WDP [k:Bx DOpK] (hs:Heap) (A:AAct) (r:OR):Prop:=zoS hs A.h (fun v h=>za0 k.val.P k.val.H k.val.ops k.val.Q k.val.rest hs (A.put k.val.op.dst v h)) r
def WDR [k:Bx DOpK] (hs:Heap) (A:AAct) (r:OR):Prop:=zom k.val.P k.val.Q A (fun v=>za0 k.val.P k.val.H k.val.ops k.val.Q k.val.rest hs (A.put k.val.op.dst v A.h)) r
def WDQ [k:Bx DOpK] (hs h0:Heap) (A:AAct) (r:OR):Prop:=quK k.val.P h0 (fun v=>za0 k.val.P k.val.H k.val.ops k.val.Q k.val.rest hs (A.put k.val.op.dst v A.h)) r
def WDL [k:Bx DOpK] (hs:Heap) (A:AAct) (r:OR):Prop:=zj0 k.val.P k.val.H k.val.Q hs A (fun v h=>za0 k.val.P k.val.H k.val.ops k.val.Q k.val.rest hs (A.put k.val.op.dst v h)) r
def H0:Hints:=fun _=>.std
def zcy:List (Nat×Hint)→Hints
 |[],_=>.std
 |(k,h)::l,t=>if t=k then h else zcy l t
theorem zzt (t:Nat):zcy [] t=.std:=rfl
theorem zxx (k:Nat) (h:Hint) (l:List (Nat×Hint)) (t:Nat):zcy ((k,h)::l) t=if t=k then h else zcy l t:=rfl
section
variable (P:Program) (H:Hints) (Q:Cont) (A:AAct)
theorem zLi (c:Code):wp P H c Q A=@W ⟨P,H,c,Q⟩ A:=propext Iff.rfl
theorem zG0:@W ⟨P,H,.skip,Q⟩ A=@WQ ⟨Q⟩ .normal A:=propext Iff.rfl
theorem zB4 (i:Nat) (l:List Oper):@W ⟨P,H,.region i ⟨l⟩ false,Q⟩ A=@WO ⟨P,H,⟨l⟩,l,Q⟩ A:=propext Iff.rfl
theorem zwM (i:Nat) (l:List Oper):@W ⟨P,H,.region i ⟨l⟩ true,Q⟩ A=@WD ⟨P,H,⟨l⟩,zox H l,Q⟩ (zhT H l A) (zjl H l A):=propext Iff.rfl
def zwm:Hint→Bool
 |.slot _ _=>true
 |_=>false
theorem zal (i:Nat) (l:List Oper) (h:zwm (H 5000000)=false):@W ⟨P,H,.region i ⟨l⟩ true,Q⟩ A=@WD ⟨P,H,⟨l⟩,l,Q⟩ (zhT H l A) (zjl H l A):=by
 have e:zox H l=l:=by
  unfold zox
  cases hh:H 5000000<;>rw [hh] at h<;>first | rfl | cases h
 rw [zwM,e]
theorem zoO {o:Oper}:(∀ j sz,za1 H0 o≠.slot j sz)∧za1 H0 o≠.sto∧∀ t,za1 H0 o≠.app t:=by
 have h0:∀ op,zlu H0 op=.bar:=by
  intro op
  unfold zlu
  split
  ·rfl
  ·rfl
 unfold za1
 split
 ·rw [h0];exact ⟨fun j sz=>by simp,by simp,fun t=>by simp⟩
 ·show (∀ j sz,(if ziM o.op=true then DC.alloc else if zcx o.op=true then .quiet else .bar)≠.slot j sz)∧(if ziM o.op=true then DC.alloc else if zcx o.op=true then .quiet else .bar)≠.sto∧∀ t,(if ziM o.op=true then DC.alloc else if zcx o.op=true then .quiet else .bar)≠.app t
  split
  ·exact ⟨fun j sz=>by simp,by simp,fun t=>by simp⟩
  ·split
   ·exact ⟨fun j sz=>by simp,by simp,fun t=>by simp⟩
   ·exact ⟨fun j sz=>by simp,by simp,fun t=>by simp⟩
theorem zri:∀ l:List Oper,zkh H0 l=[]
 |[]=>rfl
 |o::l=>by
  unfold zkh
  split
  ·rename_i j sz h;exact absurd h (zoO.1 j sz)
  ·exact zri l
theorem zo6 (T:Nat→AV):∀ l:List Oper,zhq H0 T l=[]
 |[]=>rfl
 |o::l=>by
  unfold zhq
  split
  ·rename_i h _;exact absurd h zoO.2.1
  ·rename_i h;exact absurd h (zoO.2.2 _)
  ·exact zo6 T l
theorem zG3 (i:Nat) (l:List Oper):@W ⟨P,H0,.region i ⟨l⟩ true,Q⟩ A=@WD ⟨P,H0,⟨l⟩,l,Q⟩ A.h A:=by
 rw [zal _ _ _ _ _ _ rfl]
 unfold zhT zjl znz
 rw [zri,zo6]
 simp [zlJ,zxd,H0]
theorem zLg (a b:Code):@W ⟨P,H,.seq a b,Q⟩ A=@W ⟨P,H,a,zcR (wp P H b Q) Q⟩ A:=propext Iff.rfl
theorem zG4 (c:Operand) (x y:Code):@W ⟨P,H,.cond c x y,Q⟩ A=@WC ⟨fun _=>wp P H x Q A,fun _=>wp P H y Q A⟩ (A.eval c):=propext Iff.rfl
theorem zEU (id:Nat) (b:Code):@W ⟨P,H,.block id b,Q⟩ A=@W ⟨P,H,b,zgU id Q⟩ A:=propext Iff.rfl
theorem zEO (b:Code):@W ⟨P,H,.scope b,Q⟩ A=@W ⟨P,H,b,Q⟩ A:=propext Iff.rfl
theorem zER (l:Nat):@W ⟨P,H,.label l,Q⟩ A=@WQ ⟨Q⟩ .normal A:=propext Iff.rfl
theorem zG2 (id:Nat):@W ⟨P,H,.exit id,Q⟩ A=@WQ ⟨Q⟩ (.exit id) A:=propext Iff.rfl
theorem zLh:@W ⟨P,H,.ret,Q⟩ A=@WQ ⟨Q⟩ .ret A:=propext Iff.rfl
theorem zsn (b:Code) (R:Cont):@WQ ⟨zcR (wp P H b Q) R⟩ .normal A=@W ⟨P,H,b,Q⟩ A:=propext Iff.rfl
theorem zvR (K:AAct→Prop) (j:Nat):@WQ ⟨zcR K Q⟩ (.exit j) A=@WQ ⟨Q⟩ (.exit j) A:=propext Iff.rfl
theorem zyb (K:AAct→Prop):@WQ ⟨zcR K Q⟩ .ret A=@WQ ⟨Q⟩ .ret A:=propext Iff.rfl
theorem zuC (K:AAct→Prop) (v:PV):@WQ ⟨zcR K Q⟩ (.panic v) A=@WQ ⟨Q⟩ (.panic v) A:=propext Iff.rfl
theorem zqd (id:Nat):@WQ ⟨zgU id Q⟩ .normal A=@WQ ⟨Q⟩ .normal A:=propext Iff.rfl
theorem zsr (id j:Nat):@WQ ⟨zgU id Q⟩ (.exit j) A=if j=id then @WQ ⟨Q⟩ .normal A else @WQ ⟨Q⟩ (.exit j) A:=propext Iff.rfl
theorem zuF (id:Nat):@WQ ⟨zgU id Q⟩ .ret A=@WQ ⟨Q⟩ .ret A:=propext Iff.rfl
theorem zq6 (id:Nat) (v:PV):@WQ ⟨zgU id Q⟩ (.panic v) A=@WQ ⟨Q⟩ (.panic v) A:=propext Iff.rfl
theorem zG7 (ops:Array Oper):@WO ⟨P,H,ops,[],Q⟩ A=@WQ ⟨Q⟩ .normal A:=propext Iff.rfl
theorem zeV (X Y:Unit→Prop):zuR true X Y=X ():=propext ⟨fun h=>h.1 rfl,fun h=>⟨fun _=>h,fun h'=>(by cases h')⟩⟩
theorem zfx (X Y:Unit→Prop):zuR false X Y=Y ():=propext ⟨fun h=>h.2 rfl,fun h=>⟨fun h'=>(by cases h'),fun _=>h⟩⟩
theorem zfQ (m:Nat→Bool) (dst:Option Tmp) (op:Op) (ty:TypeId) (pos:String) (after:Array Edge) (g:Option (Nat×Bool)) (e:Operand→AV) (h:Heap) :
  aOp P m ⟨dst,op,ty,pos,after,g⟩ e h=aOp P m ⟨dst,op,ty, "", #[],none⟩ e h:=by cases op<;>rfl
theorem zEY (ops:Array Oper) (rest:List Oper) (dst:Option Tmp) (op:Op) (ty:TypeId) (pos:String) (after:Array Edge) :
  @WO ⟨P,H,ops,⟨dst,op,ty,pos,after,none⟩::rest,Q⟩ A=@WR ⟨P,H,ops,rest,Q,dst⟩ A (aOp P (zaz H) ⟨dst,op,ty, "", #[],none⟩ A.eval A.h):=by
 rw [←zfQ P (zaz H) dst op ty pos after none]
 unfold WO WR
 simp only [zer,zaP,zke]
 exact zeV _ _
theorem zB8 (ops:Array Oper) (rest:List Oper) (dst:Option Tmp) (op:Op) (ty:TypeId) (pos:String) (after:Array Edge) (j:Nat) (b:Bool) :
  @WO ⟨P,H,ops,⟨dst,op,ty,pos,after,some (j,b)⟩::rest,Q⟩ A =
  @WN ⟨fun _=>orK P A dst (zer P H ops Q rest) Q (aOp P (zaz H) ⟨dst,op,ty,pos,after,some (j,b)⟩ A.eval A.h),
    fun _=>zer P H ops Q rest (A.put dst (.p (.tuple [])) A.h)⟩ (zjy A ((ops[j]?).bind (·.dst)) b):=propext Iff.rfl
theorem zEZ (X Y:Unit→Prop) (b:Bool):@WN ⟨X,Y⟩ (some b)=@WB ⟨X,Y⟩ b:=propext Iff.rfl
theorem zFg (X Y:Unit→Prop) (b:Bool):@WC ⟨X,Y⟩ (.p (.bool b))=@WB ⟨X,Y⟩ b:=propext Iff.rfl
theorem zG9 (X Y:Unit→Prop) (b:Bool):@WB ⟨X,Y⟩ (!b)=@WB ⟨Y,X⟩ b:=by
 cases b
 ·exact (zeV X Y).trans (zfx Y X).symm
 ·exact (zfx X Y).trans (zeV Y X).symm
theorem zyg (ops:Array Oper) (rest:List Oper) (d dst:Option Tmp) (op:Op) (ty:TypeId) (pos:String) (after:Array Edge) (g:Option (Nat×Bool)) (Y:Unit→Prop) :
  @WB ⟨fun _=>orK P A dst (zer P H ops Q rest) Q (aOp P (zaz H) ⟨d,op,ty,pos,after,g⟩ A.eval A.h),Y⟩ true =
   @WR ⟨P,H,ops,rest,Q,dst⟩ A (aOp P (zaz H) ⟨d,op,ty, "", #[],none⟩ A.eval A.h):=by
 rw [←zfQ P (zaz H) d op ty pos after g]
 exact zeV _ _
theorem zvV (X:Unit→Prop) (ops:Array Oper) (l:List Oper) (B:AAct):@WB ⟨X,fun _=>zer P H ops Q l B⟩ false=@WO ⟨P,H,ops,l,Q⟩ B:=zfx _ _
theorem zye (c:Code) (Y:Unit→Prop):@WB ⟨fun _=>wp P H c Q A,Y⟩ true=@W ⟨P,H,c,Q⟩ A:=zeV _ _
theorem zvT (c:Code) (X:Unit→Prop):@WB ⟨X,fun _=>wp P H c Q A⟩ false=@W ⟨P,H,c,Q⟩ A:=zfx _ _
theorem zG5 (ops:Array Oper) (rest:List Oper) (dst:Option Tmp) (v:AV) (h:Heap):@WR ⟨P,H,ops,rest,Q,dst⟩ A (.val v h)=@WO ⟨P,H,ops,rest,Q⟩ (A.put dst v h):=propext Iff.rfl
theorem zEV (ops:Array Oper) (rest:List Oper) (dst:Option Tmp) (h:Heap):@WR ⟨P,H,ops,rest,Q,dst⟩ A (.skip h)=@WO ⟨P,H,ops,rest,Q⟩ (A.put dst (.p (.tuple [])) h):=propext Iff.rfl
theorem zEW (k:OpK) (f:FuncId) (args:List AV):@WR ⟨k⟩ A (.call f args)=@WF ⟨k⟩ A f args:=propext Iff.rfl
theorem zB6 (ops:Array Oper) (rest:List Oper) (dst:Option Tmp) (v:PV):@WR ⟨P,H,ops,rest,Q,dst⟩ A (.panic v)=@WQ ⟨Q⟩ (.panic v) A:=propext Iff.rfl
theorem zyc (rs:List ResultVar) (n:Nat) (R:Rc→AEnd→Heap→Prop):@WQ ⟨zhR P rs n R⟩ .ret A=(A.bs=n∧zbd P rs (R A.rc) A.tmps A.df .ret A.h):=propext Iff.rfl
theorem zsq (rs:List ResultVar) (n:Nat) (R:Rc→AEnd→Heap→Prop):@WQ ⟨zhR P rs n R⟩ .normal A=(A.bs=n∧zbd P rs (R A.rc) A.tmps A.df .ret A.h):=propext Iff.rfl
theorem zuE (rs:List ResultVar) (n:Nat) (R:Rc→AEnd→Heap→Prop) (v:PV):@WQ ⟨zhR P rs n R⟩ (.panic v) A=(A.bs=n∧zbd P rs (R A.rc) A.tmps A.df (.pan v) A.h):=propext Iff.rfl
def zkq:AV→Option (List AV)→Option (List AV)
 |v,some l=>if v.single=true then some (v::l) else none
 |_,none=>none
def zCL:OR→Option (List AV)→Option (List AV)
 |.val v _,r=>zkq v r
 |_,_=>none
def zFx (R:AEnd→Heap→Prop) (h:Heap):Option AV→Prop
 |some v=>R (.ret v) h
 |none=>False
theorem zzd (rs:List ResultVar) (R:AEnd→Heap→Prop) (T:Nat→AV) (h:Heap):zbd P rs R T [] .ret h=zFx R h (zil (zgm P h T rs)):=propext Iff.rfl
theorem zze (rs:List ResultVar) (R:AEnd→Heap→Prop) (T:Nat→AV) (h:Heap) (v:PV):zbd P rs R T [] (.pan v) h=R (.panic v) h:=propext Iff.rfl
theorem zyJ (R:AEnd→Heap→Prop) (h:Heap) (v:AV):zFx R h (some v)=R (.ret v) h:=propext Iff.rfl
theorem zB3 (h:Heap) (T:Nat→AV):zgm P h T []=some []:=rfl
theorem zB2 (h:Heap) (T:Nat→AV) (t:Nat) (rs:List ResultVar):zgm P h T (.tmp t::rs)=zkq (T t) (zgm P h T rs):=by
 rw [zgm.eq_2]
 cases hr:zgm P h T rs<;>rfl
theorem zAd (h:Heap) (T:Nat→AV) (t:Nat) (ty:TypeId) (rs:List ResultVar):zgm P h T (.cell t ty::rs)=zCL (zhY P ty (T t) h) (zgm P h T rs):=by
 rw [zgm.eq_2]
 unfold zya
 dsimp only
 generalize zgm P h T rs=x
 cases zhY P ty (T t) h<;>cases x<;>rfl
theorem zEa (v:PV) (l:List AV):zkq (.p v) (some l)=some (.p v::l):=rfl
theorem zzH (i j k o:Nat) (l:List AV):zkq (.ptr i j k o) (some l)=some (.ptr i j k o::l):=rfl
theorem zvo (i j k o:Nat) (l:List AV):zkq (.slice i j k o) (some l)=some (.slice i j k o::l):=rfl
theorem zzI (cs:List AV) (l:List AV):zkq (.agg cs) (some l)=some (.agg cs::l):=rfl
theorem zxK (f:Fn) (a c:List AV) (l:List AV):zkq (.func f a c) (some l)=some (.func f a c::l):=rfl
theorem zzJ (v:AV) (h:Heap) (r:Option (List AV)):zCL (.val v h) r=zkq v r:=rfl
theorem zvN:zil (some [])=some (.p (.tuple [])):=rfl
theorem zvM (v:AV):zil (some [v])=some v:=rfl
theorem zvL (v u:AV) (l:List AV):zil (some (v::u::l))=some (zjv (v::u::l)):=rfl
theorem zaH {k:(Unit→Prop)×(Unit→Prop)} {b:Bool} (h1:b=true→@WB ⟨k⟩ true) (h2:b=false→@WB ⟨k⟩ false):@WB ⟨k⟩ b:=by
 cases b
 ·exact h2 rfl
 ·exact h1 rfl
theorem zG8 (ops:Array Oper) (hs:Heap):@WD ⟨P,H,ops,[],Q⟩ hs A=@WQ ⟨Q⟩ .normal A:=propext Iff.rfl
theorem zE1 (ops:Array Oper) (rest:List Oper) (hs:Heap) (dst:Option Tmp) (op:Op) (ty:TypeId) (pos:String) (after:Array Edge) :
  @WD ⟨P,H,ops,⟨dst,op,ty,pos,after,none⟩::rest,Q⟩ hs A=@WDC ⟨P,H,ops,rest,Q,⟨dst,op,ty,pos,after,none⟩⟩ hs A (za1 H ⟨dst,op,ty, "", #[],none⟩):=by
 unfold WD WDC
 simp only [za0,zaP,zke]
 exact zeV _ _
theorem zB9 (ops:Array Oper) (rest:List Oper) (hs:Heap) (dst:Option Tmp) (op:Op) (ty:TypeId) (pos:String) (after:Array Edge) (j:Nat) (b:Bool) :
  @WD ⟨P,H,ops,⟨dst,op,ty,pos,after,some (j,b)⟩::rest,Q⟩ hs A =
  @WN ⟨fun _=>@WDC ⟨P,H,ops,rest,Q,⟨dst,op,ty,pos,after,some (j,b)⟩⟩ hs A (za1 H ⟨dst,op,ty, "", #[],none⟩),
    fun _=>@WD ⟨P,H,ops,rest,Q⟩ hs (A.put dst (.p (.tuple [])) A.h)⟩ (zjy A ((ops[j]?).bind (·.dst)) b):=propext Iff.rfl
theorem zvS (k:DOpK) (hs:Heap) (d:DC) (Y:Unit→Prop):@WB ⟨fun _=>@WDC ⟨k⟩ hs A d,Y⟩ true=@WDC ⟨k⟩ hs A d:=zeV _ _
theorem zvU (k:DrK) (hs:Heap) (B:AAct) (X:Unit→Prop):@WB ⟨X,fun _=>@WD ⟨k⟩ hs B⟩ false=@WD ⟨k⟩ hs B:=zfx _ _
theorem zuG (ops:Array Oper) (l:List Oper) (B:AAct) (Y:Unit→Prop):@WB ⟨fun _=>zer P H ops Q l B,Y⟩ true=@WO ⟨P,H,ops,l,Q⟩ B:=zeV _ _
theorem zuI (ops:Array Oper) (rest:List Oper) (d dst:Option Tmp) (op:Op) (ty:TypeId) (pos:String) (after:Array Edge) (g:Option (Nat×Bool)) (X:Unit→Prop) :
  @WB ⟨X,fun _=>orK P A dst (zer P H ops Q rest) Q (aOp P (zaz H) ⟨d,op,ty,pos,after,g⟩ A.eval A.h)⟩ false =
   @WR ⟨P,H,ops,rest,Q,dst⟩ A (aOp P (zaz H) ⟨d,op,ty, "", #[],none⟩ A.eval A.h):=by
 rw [←zfQ P (zaz H) d op ty pos after g]
 exact zfx _ _
theorem zyf (k:DrK) (hs:Heap) (B:AAct) (Y:Unit→Prop):@WB ⟨fun _=>@WD ⟨k⟩ hs B,Y⟩ true=@WD ⟨k⟩ hs B:=zeV _ _
theorem zuH (k:DOpK) (hs:Heap) (d:DC) (X:Unit→Prop):@WB ⟨X,fun _=>@WDC ⟨k⟩ hs A d⟩ false=@WDC ⟨k⟩ hs A d:=zfx _ _
section
variable (ops:Array Oper) (rest:List Oper) (hs:Heap) (dst:Option Tmp) (op:Op) (ty:TypeId) (pos:String) (after:Array Edge) (g:Option (Nat×Bool))
theorem zFc:@WDC ⟨P,H,ops,rest,Q,⟨dst,op,ty,pos,after,g⟩⟩ hs A .bar=@WDB ⟨P,H,ops,rest,Q,⟨dst,op,ty,pos,after,g⟩⟩ A (aOp P (zaz H) ⟨dst,op,ty, "", #[],none⟩ A.eval A.h):=by
 rw [←zfQ P (zaz H) dst op ty pos after g];exact propext Iff.rfl
theorem zAh:@WDC ⟨P,H,ops,rest,Q,⟨dst,op,ty,pos,after,g⟩⟩ hs A .alloc=@WDA ⟨P,H,ops,rest,Q,⟨dst,op,ty,pos,after,g⟩⟩ hs A (aOp P (zaz H) ⟨dst,op,ty, "", #[],none⟩ A.eval A.h):=by
 rw [←zfQ P (zaz H) dst op ty pos after g];exact propext Iff.rfl
theorem zFd (t:Nat):@WDC ⟨P,H,ops,rest,Q,⟨dst,op,ty,pos,after,g⟩⟩ hs A (.app t)=@WDP ⟨P,H,ops,rest,Q,⟨dst,op,ty,pos,after,g⟩⟩ hs A (aOp P (zaz H) ⟨dst,op,ty, "", #[],none⟩ A.eval A.h):=by
 rw [←zfQ P (zaz H) dst op ty pos after g];exact propext Iff.rfl
theorem zE7:@WDC ⟨P,H,ops,rest,Q,⟨dst,op,ty,pos,after,g⟩⟩ hs A .thr=@WDR ⟨P,H,ops,rest,Q,⟨dst,op,ty,pos,after,g⟩⟩ hs A (aOp P (zaz H) ⟨dst,op,ty, "", #[],none⟩ A.eval A.h):=by
 rw [←zfQ P (zaz H) dst op ty pos after g];exact propext Iff.rfl
theorem zFb:@WDC ⟨P,H,ops,rest,Q,⟨dst,op,ty,pos,after,g⟩⟩ hs A .cal=@WDL ⟨P,H,ops,rest,Q,⟨dst,op,ty,pos,after,g⟩⟩ hs A (aOp P (zaz H) ⟨dst,op,ty, "", #[],none⟩ A.eval A.h):=by
 rw [←zfQ P (zaz H) dst op ty pos after g];exact propext Iff.rfl
theorem zAg:@WDC ⟨P,H,ops,rest,Q,⟨dst,op,ty,pos,after,g⟩⟩ hs A .quiet=@WDQ ⟨P,H,ops,rest,Q,⟨dst,op,ty,pos,after,g⟩⟩ hs A.h A (aOp P (zaz H) ⟨dst,op,ty, "", #[],none⟩ A.eval A.h):=by
 rw [←zfQ P (zaz H) dst op ty pos after g];exact propext Iff.rfl
theorem zFa:@WDC ⟨P,H,ops,rest,Q,⟨dst,op,ty,pos,after,g⟩⟩ hs A .low=@WDQ ⟨P,H,ops,rest,Q,⟨dst,op,ty,pos,after,g⟩⟩ hs hs A (aOp P (zaz H) ⟨dst,op,ty, "", #[],none⟩ A.eval hs):=by
 rw [←zfQ P (zaz H) dst op ty pos after g];exact propext Iff.rfl
theorem zCf (j sz:Nat):@WDC ⟨P,H,ops,rest,Q,⟨dst,op,ty,pos,after,g⟩⟩ hs A (.slot j sz)=@WDS ⟨P,H,ops,rest,Q,⟨dst,op,ty,pos,after,g⟩⟩ hs A j sz (zdP P A.eval op):=propext Iff.rfl
theorem zE8 (T:TypeId) (a x:Operand):@WDC ⟨P,H,ops,rest,Q,⟨dst,.store T a x,ty,pos,after,g⟩⟩ hs A .sto=@WDK ⟨P,H,ops,rest,Q,⟨dst,.store T a x,ty,pos,after,g⟩⟩ hs A T (A.eval a) (A.eval x):=propext Iff.rfl
theorem zE9 (T:TypeId) (a x:Operand):@WDC ⟨P,H,ops,rest,Q,⟨dst,.store T a x,ty,pos,after,g⟩⟩ hs A .nop=(zdK P T (A.eval a) (A.eval x) A.h=.skip A.h∧@WD ⟨P,H,ops,rest,Q⟩ hs (A.put dst (.p (.tuple [])) A.h)):=propext Iff.rfl
theorem zE6 (T:TypeId) (y:AV) (id ver i k:Nat):@WDK ⟨P,H,ops,rest,Q,⟨dst,op,ty,pos,after,g⟩⟩ hs A T (.ptr id ver i k) y =
  (zen hs id=true∧@WDT ⟨P,H,ops,rest,Q,⟨dst,op,ty,pos,after,g⟩⟩ hs A (zdK P T (.ptr id ver i k) y A.h)):=propext Iff.rfl
theorem zCa (h:Heap):@WDT ⟨P,H,ops,rest,Q,⟨dst,op,ty,pos,after,g⟩⟩ hs A (.skip h)=@WD ⟨P,H,ops,rest,Q⟩ hs (A.put dst (.p (.tuple [])) h):=propext Iff.rfl
theorem zCb (j sz:Nat) (z:AV):@WDS ⟨P,H,ops,rest,Q,⟨dst,op,ty,pos,after,g⟩⟩ hs A j sz (some z) =
  (z.cells.map (·.length)=some sz∧zen hs (hs.length-1-j)=true∧A.h[hs.length-1-j]?=some (.row sz [])∧@WD ⟨P,H,ops,rest,Q⟩ hs (A.put dst (.ptr (hs.length-1-j) 1 0 0) (A.h.set (hs.length-1-j) (.row sz [z])))):=propext Iff.rfl
theorem zFe (v:AV) (h:Heap):@WDB ⟨P,H,ops,rest,Q,⟨dst,op,ty,pos,after,g⟩⟩ A (.val v h)=@WD ⟨P,H,ops,rest,Q⟩ (A.put dst v h).h (A.put dst v h):=propext Iff.rfl
theorem zCg (h:Heap):@WDB ⟨P,H,ops,rest,Q,⟨dst,op,ty,pos,after,g⟩⟩ A (.skip h)=@WD ⟨P,H,ops,rest,Q⟩ (A.put dst (.p (.tuple [])) h).h (A.put dst (.p (.tuple [])) h):=propext Iff.rfl
theorem zAi (v:PV):@WDB ⟨P,H,ops,rest,Q,⟨dst,op,ty,pos,after,g⟩⟩ A (.panic v)=@WQ ⟨Q⟩ (.panic v) A:=propext Iff.rfl
theorem zFf (v:AV) (h:Heap):@WDA ⟨P,H,ops,rest,Q,⟨dst,op,ty,pos,after,g⟩⟩ hs A (.val v h)=((∃ t,h=A.h++t)∧@WD ⟨P,H,ops,rest,Q⟩ hs (A.put dst v h)):=propext Iff.rfl
theorem zE5 (v:AV) (h:Heap):@WDP ⟨P,H,ops,rest,Q,⟨dst,op,ty,pos,after,g⟩⟩ hs A (.val v h)=(zCU hs A.h h∧@WD ⟨P,H,ops,rest,Q⟩ hs (A.put dst v h)):=propext Iff.rfl
theorem zE2 (v:AV) (h0:Heap):@WDQ ⟨P,H,ops,rest,Q,⟨dst,op,ty,pos,after,g⟩⟩ hs h0 A (.val v h0)=@WD ⟨P,H,ops,rest,Q⟩ hs (A.put dst v A.h) :=
 propext ⟨fun h=>h.2,fun h=>⟨rfl,h⟩⟩
end
end
variable {P:Program}
def zjr (M:Nat→Prop) (w:World) (cargs:Array Value) (pargs:List PV):Prop:=cargs.size=pargs.length∧∀ (i:Nat) (c:PV),pargs[i]?=some c→RepP M w (cargs.getD i undef) c
def zae (P:Program) (f:FuncId) (pargs:List PV) (v:PV):Prop :=
 ∀ (M0:Nat→Prop) (w:World) (cargs:Array Value),(∀ b,M0 b→b<w.heap.size)→GOk P w→zjr M0 w cargs pargs →
  (∀ w',(callFunc f cargs).run P w'=.ok (.enter f cargs) w') ∧
  Calls P f cargs w fun e w'=>∃ v',e=.returned v'∧RepP M0 w' v' v∧Fr [] w w'
theorem zjx {M0:Nat→Prop} {w:World} (h:∀ b,M0 b→b<w.heap.size) (hg:GOk P w):HOk P M0 ⟨[],[],w⟩ where
 gl:=⟨hg,fun b _ hb=>by simp [Own] at hb⟩
 len:=rfl
 lt:=fun b hb=>by simp [Own] at hb
 m0:=fun b hb=>⟨h b hb,by simp [Own]⟩
 inj:=fun i j b hi=>by simp at hi
 obj:=fun id o ho=>by simp at ho
theorem zvb (hD:zcb P) {H:Hints} {f:FuncId} {fn:Func} {c:Code} {pargs:List PV} {v:PV} {rs:List ResultVar} {n:Nat} (hf:P.funcs[f]?=some fn) (hb:fn.body=some c) (hrs:fn.results.toList=rs) (hn:fn.ntmps=n) (hok:zaf H fn=true)
  (hlen:pargs.length≤n) (hw:SW P H c (zhR P rs 0 (fun _ r _=>r=.ret (.p v))) (zaK n .no (pargs.map .p) [])):zae P f pargs v:=by
 intro M0 w cargs hM hg ha
 have ha':zbW (Rep M0 ⟨[],[],w⟩) cargs (pargs.map .p):=by
  refine ⟨by simpa using ha.1,fun i c hc=>?_⟩
  simp only [List.getElem?_map,Option.map_eq_some_iff] at hc
  obtain ⟨q,hq,rfl⟩:=hc
  exact zas ((ha.2 i q hq).mono (fun _ _ _=>rfl) (fun b hb=>by
   rcases hb with hb | hb
   ·exact .inl hb
   ·simp [Own] at hb))
 have:=zn4 hD (h:=[]) (R:=fun r _=>r=.ret (.p v)) hf hb hrs hn hok (by simpa using hlen) hw M0 [] w cargs (zjx hM hg) ha'
 refine ⟨this.1,this.2.mono fun e w' h=>?_⟩
 obtain ⟨r,h',m',rfl,hev,hk,hend⟩:=h
 cases e with
 |returned v'=>exact ⟨v',rfl,RepP.less (show RepP (Avoid M0 m') w' v' v from hend) (fun b hb=>.inl hb),hev.fr⟩
 |panicked ch=>exact hend.elim
 |outgrown=>exact hend.elim
theorem zaa (hD:zcb P) {H:Hints} {f:FuncId} {fn:Func} {c:Code} {pargs:List PV} {v:PV} {rs:List ResultVar} {n:Nat} (hf:P.funcs[f]?=some fn) (hb:fn.body=some c) (hrs:fn.results.toList=rs) (hn:fn.ntmps=n) (hok:zaf H fn=true)
  (hlen:pargs.length≤n) (hw:wp P H c (zhR P rs 0 (fun _ r _=>r=.ret (.p v))) (zaK n .no (pargs.map .p) [])):zae P f pargs v :=
 zvb hD hf hb hrs hn hok hlen (zwS hD hw)
theorem zko {M0:Nat→Prop} {S:Mem} (hS:HOk P M0 S) {w':World} (h:Fr [] S.w w'):HOk P M0 ⟨S.m,S.h,w'⟩∧Ev S.h.length S ⟨S.m,S.h,w'⟩:=by
 have hall:∀ b,b<S.w.heap.size→w'.heap[b]?=S.w.heap[b]?:=fun b hb=>h.block b hb (by simp [Own])
 have hev:Ev S.h.length S ⟨S.m,S.h,w'⟩ :=
  {fr:=⟨h.os,h.tape,h.output,h.size,fun b hb _=>hall b hb,h.shape⟩
   sub:=fun b hb=>.inl hb
   obj:=fun id o _ ho=>⟨o,ho,ObjEv.refl _ _⟩ }
 exact ⟨
  {len:=hS.len
   lt:=fun b hb=>Nat.lt_of_lt_of_le (hS.lt b hb) h.size
   m0:=fun b hb=>⟨Nat.lt_of_lt_of_le (hS.m0 b hb).1 h.size,(hS.m0 b hb).2⟩
   inj:=hS.inj
   gl:=hev.glob hS.gl
   obj:=fun id o ho=>(hS.obj id o ho).keep hev fun b hb=>hall b (hS.lt b (List.mem_of_getElem? (zbm hb))) },hev⟩
theorem zjk {f:FuncId} {pargs:List PV} {v:PV} {h:Heap} (hc:zae P f pargs v):zap P f (pargs.map .p) h (fun r h'=>r=.ret (.p v)∧h'=h):=by
 intro M0 m w cargs hS ha
 have hM:∀ b,Avoid M0 m b→b<w.heap.size:=fun b hb=>by
  rcases hb with hb | hb
  ·exact (hS.m0 b hb).1
  ·exact hS.lt b hb
 have hargs:zjr (Avoid M0 m) w cargs pargs:=by
  refine ⟨by simpa using ha.1,fun i c hi=>?_⟩
  have:=ha.2 i (.p c) (by simp [hi])
  exact this
 obtain ⟨h1,h2⟩:=hc (Avoid M0 m) w cargs hM hS.gl.1 hargs
 refine ⟨h1,h2.mono fun e w' h=>?_⟩
 obtain ⟨v',rfl,hv,hfr⟩:=h
 obtain ⟨hk,hev⟩:=zko hS hfr
 exact ⟨.ret (.p v),_,m,⟨rfl,rfl⟩,hev,hk,hv⟩
theorem zap.mono {f:FuncId} {args:List AV} {h:Heap} {R R':AEnd→Heap→Prop} (hc:zap P f args h R) (hr:∀ r h',R r h'→R' r h'):zap P f args h R' :=
 fun M0 m w cargs hS ha=>let ⟨h1,h2⟩:=hc M0 m w cargs hS ha
  ⟨h1,h2.mono fun _ _ hb=>let ⟨r,h',m',hR,rest⟩:=hb;⟨r,h',m',hr r h' hR,rest⟩⟩
theorem zab {P:Program} {H:Hints} {ops:Array Oper} {rest:List Oper} {Q:Cont} {dst:Option Tmp} {A:AAct} {f:FuncId} {args:List AV} {pargs:List PV} {v:PV} (hc:zae P f pargs v) (ha:args=pargs.map .p)
  (h:@WO ⟨P,H,ops,rest,Q⟩ (A.put dst (.p v) A.h)):@WF ⟨P,H,ops,rest,Q,dst⟩ A f args:=by
 subst ha
 refine (zjk (h:=A.h) hc).mono fun r h' hr=>?_
 obtain ⟨rfl,rfl⟩:=hr
 exact h
theorem zau {P:Program} {H:Hints} {ops:Array Oper} {rest:List Oper} {Q:Cont} {o:Oper} {hs h0:Heap} {A:AAct} {f:FuncId} {args:List AV} {pargs:List PV} {v:PV} (hc:zae P f pargs v) (ha:args=pargs.map .p)
  (h:@WD ⟨P,H,ops,rest,Q⟩ hs (A.put o.dst (.p v) A.h)):@WDQ ⟨P,H,ops,rest,Q,o⟩ hs h0 A (.call f args):=by
 subst ha
 exact ⟨.p v,fun _ _=>zjk hc,h⟩
end Abs
end Go.Proofs.YtahlnclapingiaaGreatDoor
