/-
  THE WALK OF THE ABSTRACT MACHINE BY REWRITING: what is not to be looked into stands in pla
-/
import Derived.Test.YtfafnkpfamgbbaaGreatDoorAbsFunX
import Derived.Test.YtfafnkpfamgbbaaGreatDoorAbsDraw
set_option linter.unusedSimpArgs false
set_option linter.unusedVariables false
namespace Go.Proofs.YtfafnkpfamgbbaaGreatDoor
namespace Abs
class Bx (α:Type) where
 val:α
abbrev Cont:=Ex->AAct->Prop
structure CodeK where
 P:Program
 H:Hints
 c:Code
 Q:Cont
structure OpsK where
 P:Program
 H:Hints
 ops:Array Oper
 rest:List Oper
 Q:Cont
structure OpK where
 P:Program
 H:Hints
 ops:Array Oper
 rest:List Oper
 Q:Cont
 dst:Option Tmp
structure DrK where
 P:Program
 H:Hints
 ops:Array Oper
 rest:List Oper
 Q:Cont
structure DOpK where
 P:Program
 H:Hints
 ops:Array Oper
 rest:List Oper
 Q:Cont
 op:Oper
def W [k:Bx CodeK] (A:AAct):Prop:=wp k.val.P k.val.H k.val.c k.val.Q A
def WO [k:Bx OpsK] (A:AAct):Prop:=iJ k.val.P k.val.H k.val.ops k.val.Q k.val.rest A
def WQ [k:Bx Cont] (e:Ex) (A:AAct):Prop:=k.val e A
def WR [k:Bx OpK] (A:AAct) (r:OR):Prop:=kT k.val.P A k.val.dst (iJ k.val.P k.val.H k.val.ops k.val.Q k.val.rest) k.val.Q r
def WB [k:Bx ((Unit->Prop)×(Unit->Prop))] (b:Bool):Prop:=GQ b k.val.1 k.val.2
def WN [k:Bx ((Unit->Prop)×(Unit->Prop))] (b:Option Bool):Prop:=r7 k.val.1 k.val.2 b
def WC [k:Bx ((Unit->Prop)×(Unit->Prop))] (v:AV):Prop:=Ec k.val.1 k.val.2 v
def WF [k:Bx OpK] (A:AAct) (f:FuncId) (args:List AV):Prop:=kT k.val.P A k.val.dst (iJ k.val.P k.val.H k.val.ops k.val.Q k.val.rest) k.val.Q (.call f args)
def WD [k:Bx DrK] (hs:Heap) (A:AAct):Prop:=bU k.val.P k.val.H k.val.ops k.val.Q k.val.rest hs A
def pY [k:Bx DOpK] (hs:Heap) (A:AAct) (d:DC):Prop :=
 Ut (λ_=>kT k.val.P A k.val.op.dst (λB=>bU k.val.P k.val.H k.val.ops k.val.Q k.val.rest B.h B) k.val.Q (bY k.val.P (aQ k.val.H) k.val.op A.eval A.h))
   (λ_=>B5 A.h (λv h=>bU k.val.P k.val.H k.val.ops k.val.Q k.val.rest hs (A.put k.val.op.dst v h)) (bY k.val.P (aQ k.val.H) k.val.op A.eval A.h))
   (λ_=>xJ k.val.P A.h (λv=>bU k.val.P k.val.H k.val.ops k.val.Q k.val.rest hs (A.put k.val.op.dst v A.h)) (bY k.val.P (aQ k.val.H) k.val.op A.eval A.h))
   (λ_=>xJ k.val.P hs (λv=>bU k.val.P k.val.H k.val.ops k.val.Q k.val.rest hs (A.put k.val.op.dst v A.h)) (bY k.val.P (aQ k.val.H) k.val.op A.eval hs))
   (λj sz=>r9 hs A.h j sz (λv h=>bU k.val.P k.val.H k.val.ops k.val.Q k.val.rest hs (A.put k.val.op.dst v h)) (gO k.val.P A.eval k.val.op.op))
   (λ_=>vv k.val.P hs A.h A.eval (λh=>bU k.val.P k.val.H k.val.ops k.val.Q k.val.rest hs (A.put k.val.op.dst (.p (.tuple [])) h)) k.val.op.op)
   (λ_=>vS k.val.P A.h A.eval (bU k.val.P k.val.H k.val.ops k.val.Q k.val.rest hs (A.put k.val.op.dst (.p (.tuple [])) A.h)) k.val.op.op)
   (λ_=>zd hs A.h (λv h=>bU k.val.P k.val.H k.val.ops k.val.Q k.val.rest hs (A.put k.val.op.dst v h)) (bY k.val.P (aQ k.val.H) k.val.op A.eval A.h))
   (λ_=>yq k.val.P k.val.Q A (λv=>bU k.val.P k.val.H k.val.ops k.val.Q k.val.rest hs (A.put k.val.op.dst v A.h)) (bY k.val.P (aQ k.val.H) k.val.op A.eval A.h))
   (λ_=>rJ k.val.P k.val.H k.val.Q hs A (λv h=>bU k.val.P k.val.H k.val.ops k.val.Q k.val.rest hs (A.put k.val.op.dst v h)) (bY k.val.P (aQ k.val.H) k.val.op A.eval A.h))
   d
def ZO [k:Bx DOpK] (hs:Heap) (A:AAct) (j sz:Nat) (z:Option AV):Prop:=r9 hs A.h j sz (λv h=>bU k.val.P k.val.H k.val.ops k.val.Q k.val.rest hs (A.put k.val.op.dst v h)) z
def ZR [k:Bx DOpK] (hs:Heap) (A:AAct) (T:TypeId) (a y:AV):Prop :=
 match a with
 |.ptr id ver i o=>iG hs id=true/\qp (λh=>bU k.val.P k.val.H k.val.ops k.val.Q k.val.rest hs (A.put k.val.op.dst (.p (.tuple [])) h)) (gK k.val.P T (.ptr id ver i o) y A.h)
 |_=>False
def ZN [k:Bx DOpK] (hs:Heap) (A:AAct) (r:OR):Prop:=qp (λh=>bU k.val.P k.val.H k.val.ops k.val.Q k.val.rest hs (A.put k.val.op.dst (.p (.tuple [])) h)) r
def No [k:Bx DOpK] (A:AAct) (r:OR):Prop:=kT k.val.P A k.val.op.dst (λB=>bU k.val.P k.val.H k.val.ops k.val.Q k.val.rest B.h B) k.val.Q r
def ZS [k:Bx DOpK] (hs:Heap) (A:AAct) (r:OR):Prop:=B5 A.h (λv h=>bU k.val.P k.val.H k.val.ops k.val.Q k.val.rest hs (A.put k.val.op.dst v h)) r
def ZP [k:Bx DOpK] (hs:Heap) (A:AAct) (r:OR):Prop:=zd hs A.h (λv h=>bU k.val.P k.val.H k.val.ops k.val.Q k.val.rest hs (A.put k.val.op.dst v h)) r
def Nk [k:Bx DOpK] (hs:Heap) (A:AAct) (r:OR):Prop:=yq k.val.P k.val.Q A (λv=>bU k.val.P k.val.H k.val.ops k.val.Q k.val.rest hs (A.put k.val.op.dst v A.h)) r
def GF [k:Bx DOpK] (hs h0:Heap) (A:AAct) (r:OR):Prop:=xJ k.val.P h0 (λv=>bU k.val.P k.val.H k.val.ops k.val.Q k.val.rest hs (A.put k.val.op.dst v A.h)) r
def ZQ [k:Bx DOpK] (hs:Heap) (A:AAct) (r:OR):Prop:=rJ k.val.P k.val.H k.val.Q hs A (λv h=>bU k.val.P k.val.H k.val.ops k.val.Q k.val.rest hs (A.put k.val.op.dst v h)) r
def H0:Hints:=λ_=>.std
def eg:List (Nat×Hint)->Hints
 |[],_=>.std
 |(k,h)::l,t=>if t=k then h else eg l t
theorem Mm (t):eg [] t=.std:=rfl
theorem Kd (k) (h) (l) (t):eg ((k,h)::l) t=if t=k then h else eg l t:=rfl
section
variable (P:Program) (H:Hints) (Q:Cont) (A:AAct)
theorem ZI (c):wp P H c Q A=@W ⟨P,H,c,Q⟩ A:=propext Iff.rfl
theorem U7:@W ⟨P,H,.skip,Q⟩ A=@WQ ⟨Q⟩ .normal A:=propext Iff.rfl
theorem Pu (i) (l):@W ⟨P,H,.region i ⟨l⟩ false,Q⟩ A=@WO ⟨P,H,⟨l⟩,l,Q⟩ A:=propext Iff.rfl
theorem I4 (i) (l):@W ⟨P,H,.region i ⟨l⟩ true,Q⟩ A=@WD ⟨P,H,⟨l⟩,yH H l,Q⟩ (n7 H l A) (qF H l A):=propext Iff.rfl
def IA:Hint->Bool
 |.slot _ _=>true
 |_=>false
theorem bj (i) (l) (h:IA (H 5000000)=false):@W ⟨P,H,.region i ⟨l⟩ true,Q⟩ A=@WD ⟨P,H,⟨l⟩,l,Q⟩ (n7 H l A) (qF H l A):=by
 have e:yH H l=l:=by
  unfold yH;cases hh:H 5000000<;>rw [hh] at h<;>first | rfl | cases h
 rw [I4,e]
theorem y6 {o}:(∀ j sz,bV H0 o≠.slot j sz)/\bV H0 o≠.sto/\∀ t,bV H0 o≠.app t:=by
 have h0:∀ op,tX H0 op=.bar:=by
  intro op;unfold tX;split
  .rfl
  .rfl
 unfold bV;split
 .rw [h0];exact ⟨λj sz=>by simp,by simp,λt=>by simp⟩
 .show (∀ j sz,(if pK o.op=true then DC.alloc else if eR o.op=true then .quiet else .bar)≠.slot j sz)/\(if pK o.op=true then DC.alloc else if eR o.op=true then .quiet else .bar)≠.sto/\∀ t,(if pK o.op=true then DC.alloc else if eR o.op=true then .quiet else .bar)≠.app t;split
  .exact ⟨λj sz=>by simp,by simp,λt=>by simp⟩
  .split
   .exact ⟨λj sz=>by simp,by simp,λt=>by simp⟩
   .exact ⟨λj sz=>by simp,by simp,λt=>by simp⟩
theorem Cu:∀ l,sa H0 l=[]
 |[]=>rfl
 |o::l=>by
  unfold sa;split
  .rename_i j sz h;exact absurd h (y6.1 j sz)
  .exact Cu l
theorem zC (T):∀ l,nA H0 T l=[]
 |[]=>rfl
 |o::l=>by
  unfold nA;split
  .rename_i h _;exact absurd h y6.2.1
  .rename_i h;exact absurd h (y6.2.2 _)
  .exact zC T l
theorem U' (i) (l):@W ⟨P,H0,.region i ⟨l⟩ true,Q⟩ A=@WD ⟨P,H0,⟨l⟩,l,Q⟩ A.h A:=by
 rw [bj _ _ _ _ _ _ rfl];unfold n7 qF xl;rw [Cu,zC];simp [uo,JR,H0]
theorem ZG (a b):@W ⟨P,H,.seq a b,Q⟩ A=@W ⟨P,H,a,eK (wp P H b Q) Q⟩ A:=propext Iff.rfl
theorem Va (c) (x y):@W ⟨P,H,.cond c x y,Q⟩ A=@WC ⟨λ_=>wp P H x Q A,λ_=>wp P H y Q A⟩ (A.eval c):=propext Iff.rfl
theorem SJ (id) (b):@W ⟨P,H,.block id b,Q⟩ A=@W ⟨P,H,b,mv id Q⟩ A:=propext Iff.rfl
theorem SE (b):@W ⟨P,H,.scope b,Q⟩ A=@W ⟨P,H,b,Q⟩ A:=propext Iff.rfl
theorem SG (l):@W ⟨P,H,.label l,Q⟩ A=@WQ ⟨Q⟩ .normal A:=propext Iff.rfl
theorem U9 (id):@W ⟨P,H,.exit id,Q⟩ A=@WQ ⟨Q⟩ (.exit id) A:=propext Iff.rfl
theorem ZH:@W ⟨P,H,.ret,Q⟩ A=@WQ ⟨Q⟩ .ret A:=propext Iff.rfl
theorem DQ (b) (R):@WQ ⟨eK (wp P H b Q) R⟩ .normal A=@W ⟨P,H,b,Q⟩ A:=propext Iff.rfl
theorem HY (K) (j):@WQ ⟨eK K Q⟩ (.exit j) A=@WQ ⟨Q⟩ (.exit j) A:=propext Iff.rfl
theorem KY (K):@WQ ⟨eK K Q⟩ .ret A=@WQ ⟨Q⟩ .ret A:=propext Iff.rfl
theorem GB (K) (v):@WQ ⟨eK K Q⟩ (.panic v) A=@WQ ⟨Q⟩ (.panic v) A:=propext Iff.rfl
theorem A2 (id):@WQ ⟨mv id Q⟩ .normal A=@WQ ⟨Q⟩ .normal A:=propext Iff.rfl
theorem DU (id j):@WQ ⟨mv id Q⟩ (.exit j) A=if j=id then @WQ ⟨Q⟩ .normal A else @WQ ⟨Q⟩ (.exit j) A:=propext Iff.rfl
theorem GE (id):@WQ ⟨mv id Q⟩ .ret A=@WQ ⟨Q⟩ .ret A:=propext Iff.rfl
theorem Cb (id) (v):@WQ ⟨mv id Q⟩ (.panic v) A=@WQ ⟨Q⟩ (.panic v) A:=propext Iff.rfl
theorem Vd (ops):@WO ⟨P,H,ops,[],Q⟩ A=@WQ ⟨Q⟩ .normal A:=propext Iff.rfl
theorem jt (X Y):GQ true X Y=X ():=propext ⟨λh=>h.1 rfl,λh=>⟨λ_=>h,λh'=>(by cases h')⟩⟩
theorem ko (X Y):GQ false X Y=Y ():=propext ⟨λh=>h.2 rfl,λh=>⟨λh'=>(by cases h'),λ_=>h⟩⟩
theorem kM (m) (dst) (op) (ty) (pos) (after) (g) (e) (h) :
  bY P m ⟨dst,op,ty,pos,after,g⟩ e h=bY P m ⟨dst,op,ty, "", #[],none⟩ e h:=by cases op<;>rfl
theorem SN (ops) (rest) (dst) (op) (ty) (pos) (after) :
  @WO ⟨P,H,ops,⟨dst,op,ty,pos,after,none⟩::rest,Q⟩ A=@WR ⟨P,H,ops,rest,Q,dst⟩ A (bY P (aQ H) ⟨dst,op,ty, "", #[],none⟩ A.eval A.h):=by
 rw [<-kM P (aQ H) dst op ty pos after none];unfold WO WR;simp only [iJ,bC,r7];exact jt _ _
theorem Py (ops) (rest) (dst) (op) (ty) (pos) (after) (j) (b) :
  @WO ⟨P,H,ops,⟨dst,op,ty,pos,after,some (j,b)⟩::rest,Q⟩ A =
  @WN ⟨λ_=>kT P A dst (iJ P H ops Q rest) Q (bY P (aQ H) ⟨dst,op,ty,pos,after,some (j,b)⟩ A.eval A.h),
    λ_=>iJ P H ops Q rest (A.put dst (.p (.tuple [])) A.h)⟩ (qR A ((ops[j]?).bind (·.dst)) b):=propext Iff.rfl
theorem SO (X Y) (b):@WN ⟨X,Y⟩ (some b)=@WB ⟨X,Y⟩ b:=propext Iff.rfl
theorem S8 (X Y) (b):@WC ⟨X,Y⟩ (.p (.bool b))=@WB ⟨X,Y⟩ b:=propext Iff.rfl
theorem Vf (X Y) (b):@WB ⟨X,Y⟩ (!b)=@WB ⟨Y,X⟩ b:=by
 cases b
 .exact (jt X Y).trans (ko Y X).symm
 .exact (ko X Y).trans (jt Y X).symm
theorem K3 (ops) (rest) (d dst) (op) (ty) (pos) (after) (g) (Y) :
  @WB ⟨λ_=>kT P A dst (iJ P H ops Q rest) Q (bY P (aQ H) ⟨d,op,ty,pos,after,g⟩ A.eval A.h),Y⟩ true =
   @WR ⟨P,H,ops,rest,Q,dst⟩ A (bY P (aQ H) ⟨d,op,ty, "", #[],none⟩ A.eval A.h):=by
 rw [<-kM P (aQ H) d op ty pos after g];exact jt _ _
theorem H3 (X) (ops) (l) (B):@WB ⟨X,λ_=>iJ P H ops Q l B⟩ false=@WO ⟨P,H,ops,l,Q⟩ B:=ko _ _
theorem K1 (c) (Y):@WB ⟨λ_=>wp P H c Q A,Y⟩ true=@W ⟨P,H,c,Q⟩ A:=jt _ _
theorem H1 (c) (X):@WB ⟨X,λ_=>wp P H c Q A⟩ false=@W ⟨P,H,c,Q⟩ A:=ko _ _
theorem Vb (ops) (rest) (dst) (v) (h):@WR ⟨P,H,ops,rest,Q,dst⟩ A (.val v h)=@WO ⟨P,H,ops,rest,Q⟩ (A.put dst v h):=propext Iff.rfl
theorem SK (ops) (rest) (dst) (h):@WR ⟨P,H,ops,rest,Q,dst⟩ A (.skip h)=@WO ⟨P,H,ops,rest,Q⟩ (A.put dst (.p (.tuple [])) h):=propext Iff.rfl
theorem SL (k) (f) (args):@WR ⟨k⟩ A (.call f args)=@WF ⟨k⟩ A f args:=propext Iff.rfl
theorem Pw (ops) (rest) (dst) (v):@WR ⟨P,H,ops,rest,Q,dst⟩ A (.panic v)=@WQ ⟨Q⟩ (.panic v) A:=propext Iff.rfl
theorem KZ (rs) (n) (R):@WQ ⟨iF P rs n R⟩ .ret A=(A.bs=n/\ck P rs (R A.rc) A.tmps A.df .ret A.h):=propext Iff.rfl
theorem DT (rs) (n) (R):@WQ ⟨iF P rs n R⟩ .normal A=(A.bs=n/\ck P rs (R A.rc) A.tmps A.df .ret A.h):=propext Iff.rfl
theorem GD (rs) (n) (R) (v):@WQ ⟨iF P rs n R⟩ (.panic v) A=(A.bs=n/\ck P rs (R A.rc) A.tmps A.df (.pan v) A.h):=propext Iff.rfl
def sr:AV->Option (List AV)->Option (List AV)
 |v,some l=>if v.single=true then some (v::l) else none
 |_,none=>none
def Qo:OR->Option (List AV)->Option (List AV)
 |.val v _,r=>sr v r
 |_,_=>none
def Ty (R:AEnd->Heap->Prop) (h:Heap):Option AV->Prop
 |some v=>R (.ret v) h
 |none=>False
theorem L3 (rs) (R) (T) (h):ck P rs R T [] .ret h=Ty R h (oO (lB P h T rs)):=propext Iff.rfl
theorem L4 (rs) (R) (T) (h) (v):ck P rs R T [] (.pan v) h=R (.panic v) h:=propext Iff.rfl
theorem Lx (R) (h) (v):Ty R h (some v)=R (.ret v) h:=propext Iff.rfl
theorem Pt (h) (T):lB P h T []=some []:=rfl
theorem Pr (h) (T) (t) (rs):lB P h T (.tmp t::rs)=sr (T t) (lB P h T rs):=by
 rw [lB.eq_2];cases hr:lB P h T rs<;>rfl
theorem Nh (h) (T) (t) (ty) (rs):lB P h T (.cell t ty::rs)=Qo (oe P ty (T t) h) (lB P h T rs):=by
 rw [lB.eq_2];unfold KX;dsimp only;generalize lB P h T rs=x;cases oe P ty (T t) h<;>cases x<;>rfl
theorem RX (v) (l):sr (.p v) (some l)=some (.p v::l):=rfl
theorem MB (i j k o) (l):sr (.ptr i j k o) (some l)=some (.ptr i j k o::l):=rfl
theorem Ho (i j k o) (l):sr (.slice i j k o) (some l)=some (.slice i j k o::l):=rfl
theorem MC (cs) (l):sr (.agg cs) (some l)=some (.agg cs::l):=rfl
theorem Kq (f) (a c) (l):sr (.func f a c) (some l)=some (.func f a c::l):=rfl
theorem MD (v) (h) (r):Qo (.val v h) r=sr v r:=rfl
theorem HU:oO (some [])=some (.p (.tuple [])):=rfl
theorem HT (v):oO (some [v])=some v:=rfl
theorem HS (v u) (l):oO (some (v::u::l))=some (qO (v::u::l)):=rfl
theorem aT {k} {b} (h1:b=true->@WB ⟨k⟩ true) (h2:b=false->@WB ⟨k⟩ false):@WB ⟨k⟩ b:=by
 cases b
 .exact h2 rfl
 .exact h1 rfl
theorem Ve (ops) (hs):@WD ⟨P,H,ops,[],Q⟩ hs A=@WQ ⟨Q⟩ .normal A:=propext Iff.rfl
theorem SQ (ops) (rest) (hs) (dst) (op) (ty) (pos) (after) :
  @WD ⟨P,H,ops,⟨dst,op,ty,pos,after,none⟩::rest,Q⟩ hs A=@pY ⟨P,H,ops,rest,Q,⟨dst,op,ty,pos,after,none⟩⟩ hs A (bV H ⟨dst,op,ty, "", #[],none⟩):=by
 unfold WD pY;simp only [bU,bC,r7];exact jt _ _
theorem Pz (ops) (rest) (hs) (dst) (op) (ty) (pos) (after) (j) (b) :
  @WD ⟨P,H,ops,⟨dst,op,ty,pos,after,some (j,b)⟩::rest,Q⟩ hs A =
  @WN ⟨λ_=>@pY ⟨P,H,ops,rest,Q,⟨dst,op,ty,pos,after,some (j,b)⟩⟩ hs A (bV H ⟨dst,op,ty, "", #[],none⟩),
    λ_=>@WD ⟨P,H,ops,rest,Q⟩ hs (A.put dst (.p (.tuple [])) A.h)⟩ (qR A ((ops[j]?).bind (·.dst)) b):=propext Iff.rfl
theorem HZ (k) (hs) (d) (Y):@WB ⟨λ_=>@pY ⟨k⟩ hs A d,Y⟩ true=@pY ⟨k⟩ hs A d:=jt _ _
theorem H2 (k) (hs) (B) (X):@WB ⟨X,λ_=>@WD ⟨k⟩ hs B⟩ false=@WD ⟨k⟩ hs B:=ko _ _
theorem GG (ops) (l) (B) (Y):@WB ⟨λ_=>iJ P H ops Q l B,Y⟩ true=@WO ⟨P,H,ops,l,Q⟩ B:=jt _ _
theorem GI (ops) (rest) (d dst) (op) (ty) (pos) (after) (g) (X) :
  @WB ⟨X,λ_=>kT P A dst (iJ P H ops Q rest) Q (bY P (aQ H) ⟨d,op,ty,pos,after,g⟩ A.eval A.h)⟩ false =
   @WR ⟨P,H,ops,rest,Q,dst⟩ A (bY P (aQ H) ⟨d,op,ty, "", #[],none⟩ A.eval A.h):=by
 rw [<-kM P (aQ H) d op ty pos after g];exact ko _ _
theorem K2 (k) (hs) (B) (Y):@WB ⟨λ_=>@WD ⟨k⟩ hs B,Y⟩ true=@WD ⟨k⟩ hs B:=jt _ _
theorem GH (k) (hs) (d) (X):@WB ⟨X,λ_=>@pY ⟨k⟩ hs A d⟩ false=@pY ⟨k⟩ hs A d:=ko _ _
section
variable (ops:Array Oper) (rest:List Oper) (hs:Heap) (dst:Option Tmp) (op:Op) (ty:TypeId) (pos:String) (after:Array Edge) (g:Option (Nat×Bool))
theorem S4:@pY ⟨P,H,ops,rest,Q,⟨dst,op,ty,pos,after,g⟩⟩ hs A .bar=@No ⟨P,H,ops,rest,Q,⟨dst,op,ty,pos,after,g⟩⟩ A (bY P (aQ H) ⟨dst,op,ty, "", #[],none⟩ A.eval A.h):=by
 rw [<-kM P (aQ H) dst op ty pos after g];exact propext Iff.rfl
theorem Nm:@pY ⟨P,H,ops,rest,Q,⟨dst,op,ty,pos,after,g⟩⟩ hs A .alloc=@ZS ⟨P,H,ops,rest,Q,⟨dst,op,ty,pos,after,g⟩⟩ hs A (bY P (aQ H) ⟨dst,op,ty, "", #[],none⟩ A.eval A.h):=by
 rw [<-kM P (aQ H) dst op ty pos after g];exact propext Iff.rfl
theorem S5 (t):@pY ⟨P,H,ops,rest,Q,⟨dst,op,ty,pos,after,g⟩⟩ hs A (.app t)=@ZP ⟨P,H,ops,rest,Q,⟨dst,op,ty,pos,after,g⟩⟩ hs A (bY P (aQ H) ⟨dst,op,ty, "", #[],none⟩ A.eval A.h):=by
 rw [<-kM P (aQ H) dst op ty pos after g];exact propext Iff.rfl
theorem SV:@pY ⟨P,H,ops,rest,Q,⟨dst,op,ty,pos,after,g⟩⟩ hs A .thr=@Nk ⟨P,H,ops,rest,Q,⟨dst,op,ty,pos,after,g⟩⟩ hs A (bY P (aQ H) ⟨dst,op,ty, "", #[],none⟩ A.eval A.h):=by
 rw [<-kM P (aQ H) dst op ty pos after g];exact propext Iff.rfl
theorem S3:@pY ⟨P,H,ops,rest,Q,⟨dst,op,ty,pos,after,g⟩⟩ hs A .cal=@ZQ ⟨P,H,ops,rest,Q,⟨dst,op,ty,pos,after,g⟩⟩ hs A (bY P (aQ H) ⟨dst,op,ty, "", #[],none⟩ A.eval A.h):=by
 rw [<-kM P (aQ H) dst op ty pos after g];exact propext Iff.rfl
theorem Nl:@pY ⟨P,H,ops,rest,Q,⟨dst,op,ty,pos,after,g⟩⟩ hs A .quiet=@GF ⟨P,H,ops,rest,Q,⟨dst,op,ty,pos,after,g⟩⟩ hs A.h A (bY P (aQ H) ⟨dst,op,ty, "", #[],none⟩ A.eval A.h):=by
 rw [<-kM P (aQ H) dst op ty pos after g];exact propext Iff.rfl
theorem SZ:@pY ⟨P,H,ops,rest,Q,⟨dst,op,ty,pos,after,g⟩⟩ hs A .low=@GF ⟨P,H,ops,rest,Q,⟨dst,op,ty,pos,after,g⟩⟩ hs hs A (bY P (aQ H) ⟨dst,op,ty, "", #[],none⟩ A.eval hs):=by
 rw [<-kM P (aQ H) dst op ty pos after g];exact propext Iff.rfl
theorem PF (j sz):@pY ⟨P,H,ops,rest,Q,⟨dst,op,ty,pos,after,g⟩⟩ hs A (.slot j sz)=@ZO ⟨P,H,ops,rest,Q,⟨dst,op,ty,pos,after,g⟩⟩ hs A j sz (gO P A.eval op):=propext Iff.rfl
theorem SX (T) (a x):@pY ⟨P,H,ops,rest,Q,⟨dst,.store T a x,ty,pos,after,g⟩⟩ hs A .sto=@ZR ⟨P,H,ops,rest,Q,⟨dst,.store T a x,ty,pos,after,g⟩⟩ hs A T (A.eval a) (A.eval x):=propext Iff.rfl
theorem SY (T) (a x):@pY ⟨P,H,ops,rest,Q,⟨dst,.store T a x,ty,pos,after,g⟩⟩ hs A .nop=(gK P T (A.eval a) (A.eval x) A.h=.skip A.h/\@WD ⟨P,H,ops,rest,Q⟩ hs (A.put dst (.p (.tuple [])) A.h)):=propext Iff.rfl
theorem SU (T) (y) (id ver i k):@ZR ⟨P,H,ops,rest,Q,⟨dst,op,ty,pos,after,g⟩⟩ hs A T (.ptr id ver i k) y =
  (iG hs id=true/\@ZN ⟨P,H,ops,rest,Q,⟨dst,op,ty,pos,after,g⟩⟩ hs A (gK P T (.ptr id ver i k) y A.h)):=propext Iff.rfl
theorem PA (h):@ZN ⟨P,H,ops,rest,Q,⟨dst,op,ty,pos,after,g⟩⟩ hs A (.skip h)=@WD ⟨P,H,ops,rest,Q⟩ hs (A.put dst (.p (.tuple [])) h):=propext Iff.rfl
theorem PB (j sz) (z):@ZO ⟨P,H,ops,rest,Q,⟨dst,op,ty,pos,after,g⟩⟩ hs A j sz (some z) =
  (z.cells.map (·.length)=some sz/\iG hs (hs.length-1-j)=true/\A.h[hs.length-1-j]?=some (.row sz [])/\@WD ⟨P,H,ops,rest,Q⟩ hs (A.put dst (.ptr (hs.length-1-j) 1 0 0) (A.h.set (hs.length-1-j) (.row sz [z])))):=propext Iff.rfl
theorem S6 (v) (h):@No ⟨P,H,ops,rest,Q,⟨dst,op,ty,pos,after,g⟩⟩ A (.val v h)=@WD ⟨P,H,ops,rest,Q⟩ (A.put dst v h).h (A.put dst v h):=propext Iff.rfl
theorem PG (h):@No ⟨P,H,ops,rest,Q,⟨dst,op,ty,pos,after,g⟩⟩ A (.skip h)=@WD ⟨P,H,ops,rest,Q⟩ (A.put dst (.p (.tuple [])) h).h (A.put dst (.p (.tuple [])) h):=propext Iff.rfl
theorem Nn (v):@No ⟨P,H,ops,rest,Q,⟨dst,op,ty,pos,after,g⟩⟩ A (.panic v)=@WQ ⟨Q⟩ (.panic v) A:=propext Iff.rfl
theorem S7 (v) (h):@ZS ⟨P,H,ops,rest,Q,⟨dst,op,ty,pos,after,g⟩⟩ hs A (.val v h)=((∃ t,h=A.h++t)/\@WD ⟨P,H,ops,rest,Q⟩ hs (A.put dst v h)):=propext Iff.rfl
theorem ST (v) (h):@ZP ⟨P,H,ops,rest,Q,⟨dst,op,ty,pos,after,g⟩⟩ hs A (.val v h)=(Qz hs A.h h/\@WD ⟨P,H,ops,rest,Q⟩ hs (A.put dst v h)):=propext Iff.rfl
theorem SR (v) (h0):@GF ⟨P,H,ops,rest,Q,⟨dst,op,ty,pos,after,g⟩⟩ hs h0 A (.val v h0)=@WD ⟨P,H,ops,rest,Q⟩ hs (A.put dst v A.h) :=
 propext ⟨λh=>h.2,λh=>⟨rfl,h⟩⟩
end
end
variable {P:Program}
def qL (M:Nat->Prop) (w:World) (cargs:Array Value) (pargs:List PV):Prop:=cargs.size=pargs.length/\∀ (i:Nat) (c:PV),pargs[i]?=some c->RepP M w (cargs.getD i undef) c
def ah (P:Program) (f:FuncId) (pargs:List PV) (v:PV):Prop :=
 ∀ (M0:Nat->Prop) (w:World) (cargs:Array Value),(∀ b,M0 b->b<w.heap.size)->u9 P w->qL M0 w cargs pargs ->
  (∀ w',(callFunc f cargs).run P w'=.ok (.enter f cargs) w') /\
  Calls P f cargs w λe w'=>∃ v',e=.returned v'/\RepP M0 w' v' v/\Fr [] w w'
theorem qQ {M0:Nat->Prop} {w:World} (h:∀ b,M0 b->b<w.heap.size) (hg:u9 P w):HOk P M0 ⟨[],[],w⟩ where
 gl:=⟨hg,λb _ hb=>by simp [Own] at hb⟩
 len:=rfl
 lt:=λb hb=>by simp [Own] at hb
 m0:=λb hb=>⟨h b hb,by simp [Own]⟩
 inj:=λi j b hi=>by simp at hi
 obj:=λid o ho=>by simp at ho
theorem xM (hD:dT P) {H} {f} {fn} {c} {pargs} {v} {rs} {n} (hf:P.funcs[f]?=some fn) (hb:fn.body=some c) (hrs:fn.results.toList=rs) (hn:fn.ntmps=n) (hok:aj H fn=true)
  (hlen:pargs.length<=n) (hw:SW P H c (iF P rs 0 (λ_ r _=>r=.ret (.p v))) (aX n .no (pargs.map .p) [])):ah P f pargs v:=by
 intro M0 w cargs hM hg ha;have ha':dM (Rep M0 ⟨[],[],w⟩) cargs (pargs.map .p):=by
  refine ⟨by simpa using ha.1,λi c hc=>?_⟩;simp only [cv,bT] at hc;obtain ⟨q,hq,rfl⟩:=hc;exact aG ((ha.2 i q hq).mono (λ_ _ _=>rfl) (λb hb=>by
   rcases hb with hb | hb
   .exact .inl hb
   .simp [Own] at hb))
 have:=xS hD (h:=[]) (R:=λr _=>r=.ret (.p v)) hf hb hrs hn hok (by simpa using hlen) hw M0 [] w cargs (qQ hM hg) ha';refine ⟨this.1,this.2.mono λe w' h=>?_⟩;obtain ⟨r,h',m',rfl,hev,hk,hend⟩:=h
 cases e with
 |returned v'=>exact ⟨v',rfl,RepP.less (show RepP (Avoid M0 m') w' v' v from hend) (λb hb=>.inl hb),hev.fr⟩
 |panicked ch=>exact hend.elim
 |outgrown=>exact hend.elim
theorem G9 (hD:dT P) {H} {f} {fn} {c} {pargs} {v} {rs} {n} (hf:P.funcs[f]?=some fn) (hb:fn.body=some c) (hrs:fn.results.toList=rs) (hn:fn.ntmps=n) (hok:aj H fn=true)
  (hlen:pargs.length<=n) (hw:wp P H c (iF P rs 0 (λ_ r _=>r=.ret (.p v))) (aX n .no (pargs.map .p) [])):ah P f pargs v :=
 xM hD hf hb hrs hn hok hlen (D5 hD hw)
theorem sm {M0} {S} (hS:HOk P M0 S) {w'} (h:Fr [] S.w w'):HOk P M0 ⟨S.m,S.h,w'⟩/\Ev S.h.length S ⟨S.m,S.h,w'⟩:=by
 have hall:∀ b,b<S.w.heap.size->w'.heap[b]?=S.w.heap[b]?:=λb hb=>h.block b hb (by simp [Own])
 have hev:Ev S.h.length S ⟨S.m,S.h,w'⟩ :=
  {fr:=⟨h.os,h.tape,h.output,h.size,λb hb _=>hall b hb,h.shape⟩
   sub:=λb hb=>.inl hb
   obj:=λid o _ ho=>⟨o,ho,ObjEv.refl _ _⟩ }
 exact ⟨
  {len:=hS.len
   lt:=λb hb=>jw (hS.lt b hb) h.size
   m0:=λb hb=>⟨jw (hS.m0 b hb).1 h.size,(hS.m0 b hb).2⟩
   inj:=hS.inj
   gl:=hev.glob hS.gl
   obj:=λid o ho=>(hS.obj id o ho).keep hev λb hb=>hall b (hS.lt b (aL (cA hb))) },hev⟩
theorem qE {f} {pargs} {v} {h} (hc:ah P f pargs v):aC P f (pargs.map .p) h (λr h'=>r=.ret (.p v)/\h'=h):=by
 intro M0 m w cargs hS ha;have hM:∀ b,Avoid M0 m b->b<w.heap.size:=λb hb=>by
  rcases hb with hb | hb
  .exact (hS.m0 b hb).1
  .exact hS.lt b hb
 have hargs:qL (Avoid M0 m) w cargs pargs:=by
  refine ⟨by simpa using ha.1,λi c hi=>?_⟩;have:=ha.2 i (.p c) (by simp [hi]);exact this
 obtain ⟨h1,h2⟩:=hc (Avoid M0 m) w cargs hM hS.gl.1 hargs;refine ⟨h1,h2.mono λe w' h=>?_⟩;obtain ⟨v',rfl,hv,hfr⟩:=h;obtain ⟨hk,hev⟩:=sm hS hfr;exact ⟨.ret (.p v),_,m,⟨rfl,rfl⟩,hev,hk,hv⟩
theorem aC.mono {f} {args} {h} {R R'} (hc:aC P f args h R) (hr:∀ r h',R r h'->R' r h'):aC P f args h R' :=
 λM0 m w cargs hS ha=>let ⟨h1,h2⟩:=hc M0 m w cargs hS ha
  ⟨h1,h2.mono λ_ _ hb=>let ⟨r,h',m',hR,rest⟩:=hb;⟨r,h',m',hr r h' hR,rest⟩⟩
theorem ae {P} {H} {ops} {rest} {Q} {dst} {A} {f} {args} {pargs} {v} (hc:ah P f pargs v) (ha:args=pargs.map .p)
  (h:@WO ⟨P,H,ops,rest,Q⟩ (A.put dst (.p v) A.h)):@WF ⟨P,H,ops,rest,Q,dst⟩ A f args:=by
 subst ha;refine (qE (h:=A.h) hc).mono λr h' hr=>?_;obtain ⟨rfl,rfl⟩:=hr;exact h
theorem aD {P} {H} {ops} {rest} {Q} {o} {hs h0} {A} {f} {args} {pargs} {v} (hc:ah P f pargs v) (ha:args=pargs.map .p)
  (h:@WD ⟨P,H,ops,rest,Q⟩ hs (A.put o.dst (.p v) A.h)):@GF ⟨P,H,ops,rest,Q,o⟩ hs h0 A (.call f args):=by
 subst ha;exact ⟨.p v,λ_ _=>qE hc,h⟩
end Abs
end Go.Proofs.YtfafnkpfamgbbaaGreatDoor
