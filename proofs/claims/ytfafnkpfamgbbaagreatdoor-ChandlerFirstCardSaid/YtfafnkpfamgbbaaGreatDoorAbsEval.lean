/-
  THE WALK OF THE ABSTRACT MACHINE BY REWRITING: what is not to be looked into stands in pla
-/
import Derived.Test.YtfafnkpfamgbbaaGreatDoorAbsFunX
import Derived.Test.YtfafnkpfamgbbaaGreatDoorAbsDraw
set_option linter.unusedSimpArgs false
set_option linter.unusedVariables false
namespace Go.Proofs.YtfafnkpfamgbbaaGreatDoor
namespace Abs
class Bx (α:Type) where
 val:α
abbrev Cont:=Ex->AAct->Prop
structure CodeK where
 P:Program
 H:Hints
 c:Code
 Q:Cont
structure OpsK where
 P:Program
 H:Hints
 ops:Array Oper
 rest:List Oper
 Q:Cont
structure OpK where
 P:Program
 H:Hints
 ops:Array Oper
 rest:List Oper
 Q:Cont
 dst:Option Tmp
structure DrK where
 P:Program
 H:Hints
 ops:Array Oper
 rest:List Oper
 Q:Cont
structure DOpK where
 P:Program
 H:Hints
 ops:Array Oper
 rest:List Oper
 Q:Cont
 op:Oper
def W [k:Bx CodeK] (A:AAct):Prop:=wp k.val.P k.val.H k.val.c k.val.Q A
def WO [k:Bx OpsK] (A:AAct):Prop:=gS k.val.P k.val.H k.val.ops k.val.Q k.val.rest A
def WQ [k:Bx Cont] (e:Ex) (A:AAct):Prop:=k.val e A
def WR [k:Bx OpK] (A:AAct) (r:OR):Prop:=jV k.val.P A k.val.dst (gS k.val.P k.val.H k.val.ops k.val.Q k.val.rest) k.val.Q r
def WB [k:Bx ((Unit->Prop)×(Unit->Prop))] (b:Bool):Prop:=ED b k.val.1 k.val.2
def WN [k:Bx ((Unit->Prop)×(Unit->Prop))] (b:Option Bool):Prop:=qn k.val.1 k.val.2 b
def WC [k:Bx ((Unit->Prop)×(Unit->Prop))] (v:AV):Prop:=BZ k.val.1 k.val.2 v
def WF [k:Bx OpK] (A:AAct) (f:FuncId) (args:List AV):Prop:=jV k.val.P A k.val.dst (gS k.val.P k.val.H k.val.ops k.val.Q k.val.rest) k.val.Q (.call f args)
def WD [k:Bx DrK] (hs:Heap) (A:AAct):Prop:=bC k.val.P k.val.H k.val.ops k.val.Q k.val.rest hs A
def oh [k:Bx DOpK] (hs:Heap) (A:AAct) (d:DC):Prop :=
 Rw (λ_=>jV k.val.P A k.val.op.dst (λB=>bC k.val.P k.val.H k.val.ops k.val.Q k.val.rest B.h B) k.val.Q (bH k.val.P (aK k.val.H) k.val.op A.eval A.h))
   (λ_=>z8 A.h (λv h=>bC k.val.P k.val.H k.val.ops k.val.Q k.val.rest hs (A.put k.val.op.dst v h)) (bH k.val.P (aK k.val.H) k.val.op A.eval A.h))
   (λ_=>vR k.val.P A.h (λv=>bC k.val.P k.val.H k.val.ops k.val.Q k.val.rest hs (A.put k.val.op.dst v A.h)) (bH k.val.P (aK k.val.H) k.val.op A.eval A.h))
   (λ_=>vR k.val.P hs (λv=>bC k.val.P k.val.H k.val.ops k.val.Q k.val.rest hs (A.put k.val.op.dst v A.h)) (bH k.val.P (aK k.val.H) k.val.op A.eval hs))
   (λj sz=>qq hs A.h j sz (λv h=>bC k.val.P k.val.H k.val.ops k.val.Q k.val.rest hs (A.put k.val.op.dst v h)) (fS k.val.P A.eval k.val.op.op))
   (λ_=>tM k.val.P hs A.h A.eval (λh=>bC k.val.P k.val.H k.val.ops k.val.Q k.val.rest hs (A.put k.val.op.dst (.p (.tuple [])) h)) k.val.op.op)
   (λ_=>ua k.val.P A.h A.eval (bC k.val.P k.val.H k.val.ops k.val.Q k.val.rest hs (A.put k.val.op.dst (.p (.tuple [])) A.h)) k.val.op.op)
   (λ_=>xg hs A.h (λv h=>bC k.val.P k.val.H k.val.ops k.val.Q k.val.rest hs (A.put k.val.op.dst v h)) (bH k.val.P (aK k.val.H) k.val.op A.eval A.h))
   (λ_=>wB k.val.P k.val.Q A (λv=>bC k.val.P k.val.H k.val.ops k.val.Q k.val.rest hs (A.put k.val.op.dst v A.h)) (bH k.val.P (aK k.val.H) k.val.op A.eval A.h))
   (λ_=>p4 k.val.P k.val.H k.val.Q hs A (λv h=>bC k.val.P k.val.H k.val.ops k.val.Q k.val.rest hs (A.put k.val.op.dst v h)) (bH k.val.P (aK k.val.H) k.val.op A.eval A.h))
   d
def WX [k:Bx DOpK] (hs:Heap) (A:AAct) (j sz:Nat) (z:Option AV):Prop:=qq hs A.h j sz (λv h=>bC k.val.P k.val.H k.val.ops k.val.Q k.val.rest hs (A.put k.val.op.dst v h)) z
def W0 [k:Bx DOpK] (hs:Heap) (A:AAct) (T:TypeId) (a y:AV):Prop :=
 match a with
 |.ptr id ver i o=>gO hs id=true/\oS (λh=>bC k.val.P k.val.H k.val.ops k.val.Q k.val.rest hs (A.put k.val.op.dst (.p (.tuple [])) h)) (fM k.val.P T (.ptr id ver i o) y A.h)
 |_=>False
def WW [k:Bx DOpK] (hs:Heap) (A:AAct) (r:OR):Prop:=oS (λh=>bC k.val.P k.val.H k.val.ops k.val.Q k.val.rest hs (A.put k.val.op.dst (.p (.tuple [])) h)) r
def KN [k:Bx DOpK] (A:AAct) (r:OR):Prop:=jV k.val.P A k.val.op.dst (λB=>bC k.val.P k.val.H k.val.ops k.val.Q k.val.rest B.h B) k.val.Q r
def W1 [k:Bx DOpK] (hs:Heap) (A:AAct) (r:OR):Prop:=z8 A.h (λv h=>bC k.val.P k.val.H k.val.ops k.val.Q k.val.rest hs (A.put k.val.op.dst v h)) r
def WY [k:Bx DOpK] (hs:Heap) (A:AAct) (r:OR):Prop:=xg hs A.h (λv h=>bC k.val.P k.val.H k.val.ops k.val.Q k.val.rest hs (A.put k.val.op.dst v h)) r
def KI [k:Bx DOpK] (hs:Heap) (A:AAct) (r:OR):Prop:=wB k.val.P k.val.Q A (λv=>bC k.val.P k.val.H k.val.ops k.val.Q k.val.rest hs (A.put k.val.op.dst v A.h)) r
def Er [k:Bx DOpK] (hs h0:Heap) (A:AAct) (r:OR):Prop:=vR k.val.P h0 (λv=>bC k.val.P k.val.H k.val.ops k.val.Q k.val.rest hs (A.put k.val.op.dst v A.h)) r
def WZ [k:Bx DOpK] (hs:Heap) (A:AAct) (r:OR):Prop:=p4 k.val.P k.val.H k.val.Q hs A (λv h=>bC k.val.P k.val.H k.val.ops k.val.Q k.val.rest hs (A.put k.val.op.dst v h)) r
def H0:Hints:=λ_=>.std
def dY:List (Nat×Hint)->Hints
 |[],_=>.std
 |(k,h)::l,t=>if t=k then h else dY l t
theorem JU (t):dY [] t=.std:=rfl
theorem HQ (k) (h) (l) (t):dY ((k,h)::l) t=if t=k then h else dY l t:=rfl
section
variable (P:Program) (H:Hints) (Q:Cont) (A:AAct)
theorem WS (c):wp P H c Q A=@W ⟨P,H,c,Q⟩ A:=propext Iff.rfl
theorem R9:@W ⟨P,H,.skip,Q⟩ A=@WQ ⟨Q⟩ .normal A:=propext Iff.rfl
theorem MP (i) (l):@W ⟨P,H,.region i ⟨l⟩ false,Q⟩ A=@WO ⟨P,H,⟨l⟩,l,Q⟩ A:=propext Iff.rfl
theorem GF (i) (l):@W ⟨P,H,.region i ⟨l⟩ true,Q⟩ A=@WD ⟨P,H,⟨l⟩,wN H l,Q⟩ (mJ H l A) (pc H l A):=propext Iff.rfl
def Gd:Hint->Bool
 |.slot _ _=>true
 |_=>false
theorem bf (i) (l) (h:Gd (H 5000000)=false):@W ⟨P,H,.region i ⟨l⟩ true,Q⟩ A=@WD ⟨P,H,⟨l⟩,l,Q⟩ (mJ H l A) (pc H l A):=by
 have e:wN H l=l:=by
  unfold wN;cases hh:H 5000000<;>rw [hh] at h<;>first | rfl | cases h
 rw [GF,e]
theorem xc {o}:(∀ j sz,bD H0 o≠.slot j sz)/\bD H0 o≠.sto/\∀ t,bD H0 o≠.app t:=by
 have h0:∀ op,sk H0 op=.bar:=by
  intro op;unfold sk;split
  .rfl
  .rfl
 unfold bD;split
 .rw [h0];exact ⟨λj sz=>by simp,by simp,λt=>by simp⟩
 .show (∀ j sz,(if nW o.op=true then DC.alloc else if dX o.op=true then .quiet else .bar)≠.slot j sz)/\(if nW o.op=true then DC.alloc else if dX o.op=true then .quiet else .bar)≠.sto/\∀ t,(if nW o.op=true then DC.alloc else if dX o.op=true then .quiet else .bar)≠.app t;split
  .exact ⟨λj sz=>by simp,by simp,λt=>by simp⟩
  .split
   .exact ⟨λj sz=>by simp,by simp,λt=>by simp⟩
   .exact ⟨λj sz=>by simp,by simp,λt=>by simp⟩
theorem Au:∀ l,qr H0 l=[]
 |[]=>rfl
 |o::l=>by
  unfold qr;split
  .rename_i j sz h;exact absurd h (xc.1 j sz)
  .exact Au l
theorem xD (T):∀ l,l5 H0 T l=[]
 |[]=>rfl
 |o::l=>by
  unfold l5;split
  .rename_i h _;exact absurd h xc.2.1
  .rename_i h;exact absurd h (xc.2.2 _)
  .exact xD T l
theorem Sc (i) (l):@W ⟨P,H0,.region i ⟨l⟩ true,Q⟩ A=@WD ⟨P,H0,⟨l⟩,l,Q⟩ A.h A:=by
 rw [bf _ _ _ _ _ _ rfl];unfold mJ pc vm;rw [Au,xD];simp [sF,Ht,H0]
theorem WM (a b):@W ⟨P,H,.seq a b,Q⟩ A=@W ⟨P,H,a,eu (wp P H b Q) Q⟩ A:=propext Iff.rfl
theorem Sd (c) (x y):@W ⟨P,H,.cond c x y,Q⟩ A=@WC ⟨λ_=>wp P H x Q A,λ_=>wp P H y Q A⟩ (A.eval c):=propext Iff.rfl
theorem PX (id) (b):@W ⟨P,H,.block id b,Q⟩ A=@W ⟨P,H,b,lg id Q⟩ A:=propext Iff.rfl
theorem PQ (b):@W ⟨P,H,.scope b,Q⟩ A=@W ⟨P,H,b,Q⟩ A:=propext Iff.rfl
theorem PT (l):@W ⟨P,H,.label l,Q⟩ A=@WQ ⟨Q⟩ .normal A:=propext Iff.rfl
theorem Sb (id):@W ⟨P,H,.exit id,Q⟩ A=@WQ ⟨Q⟩ (.exit id) A:=propext Iff.rfl
theorem WP:@W ⟨P,H,.ret,Q⟩ A=@WQ ⟨Q⟩ .ret A:=propext Iff.rfl
theorem BF (b) (R):@WQ ⟨eu (wp P H b Q) R⟩ .normal A=@W ⟨P,H,b,Q⟩ A:=propext Iff.rfl
theorem FJ (K) (j):@WQ ⟨eu K Q⟩ (.exit j) A=@WQ ⟨Q⟩ (.exit j) A:=propext Iff.rfl
theorem Iv (K):@WQ ⟨eu K Q⟩ .ret A=@WQ ⟨Q⟩ .ret A:=propext Iff.rfl
theorem Em (K) (v):@WQ ⟨eu K Q⟩ (.panic v) A=@WQ ⟨Q⟩ (.panic v) A:=propext Iff.rfl
theorem y2 (id):@WQ ⟨lg id Q⟩ .normal A=@WQ ⟨Q⟩ .normal A:=propext Iff.rfl
theorem BJ (id j):@WQ ⟨lg id Q⟩ (.exit j) A=if j=id then @WQ ⟨Q⟩ .normal A else @WQ ⟨Q⟩ (.exit j) A:=propext Iff.rfl
theorem Ep (id):@WQ ⟨lg id Q⟩ .ret A=@WQ ⟨Q⟩ .ret A:=propext Iff.rfl
theorem Af (id) (v):@WQ ⟨lg id Q⟩ (.panic v) A=@WQ ⟨Q⟩ (.panic v) A:=propext Iff.rfl
theorem Sg (ops):@WO ⟨P,H,ops,[],Q⟩ A=@WQ ⟨Q⟩ .normal A:=propext Iff.rfl
theorem iF (X Y):ED true X Y=X ():=propext ⟨λh=>h.1 rfl,λh=>⟨λ_=>h,λh'=>(by cases h')⟩⟩
theorem jx (X Y):ED false X Y=Y ():=propext ⟨λh=>h.2 rfl,λh=>⟨λh'=>(by cases h'),λ_=>h⟩⟩
theorem jP (m) (dst) (op) (ty) (pos) (after) (g) (e) (h) :
  bH P m ⟨dst,op,ty,pos,after,g⟩ e h=bH P m ⟨dst,op,ty, "", #[],none⟩ e h:=by cases op<;>rfl
theorem P1 (ops) (rest) (dst) (op) (ty) (pos) (after) :
  @WO ⟨P,H,ops,⟨dst,op,ty,pos,after,none⟩::rest,Q⟩ A=@WR ⟨P,H,ops,rest,Q,dst⟩ A (bH P (aK H) ⟨dst,op,ty, "", #[],none⟩ A.eval A.h):=by
 rw [<-jP P (aK H) dst op ty pos after none];unfold WO WR;simp only [gS,bi,qn];exact iF _ _
theorem MT (ops) (rest) (dst) (op) (ty) (pos) (after) (j) (b) :
  @WO ⟨P,H,ops,⟨dst,op,ty,pos,after,some (j,b)⟩::rest,Q⟩ A =
  @WN ⟨λ_=>jV P A dst (gS P H ops Q rest) Q (bH P (aK H) ⟨dst,op,ty,pos,after,some (j,b)⟩ A.eval A.h),
    λ_=>gS P H ops Q rest (A.put dst (.p (.tuple [])) A.h)⟩ (pw A ((ops[j]?).bind (·.dst)) b):=propext Iff.rfl
theorem P2 (X Y) (b):@WN ⟨X,Y⟩ (some b)=@WB ⟨X,Y⟩ b:=propext Iff.rfl
theorem Qi (X Y) (b):@WC ⟨X,Y⟩ (.p (.bool b))=@WB ⟨X,Y⟩ b:=propext Iff.rfl
theorem Si (X Y) (b):@WB ⟨X,Y⟩ (!b)=@WB ⟨Y,X⟩ b:=by
 cases b
 .exact (iF X Y).trans (jx Y X).symm
 .exact (jx X Y).trans (iF Y X).symm
theorem IA (ops) (rest) (d dst) (op) (ty) (pos) (after) (g) (Y) :
  @WB ⟨λ_=>jV P A dst (gS P H ops Q rest) Q (bH P (aK H) ⟨d,op,ty,pos,after,g⟩ A.eval A.h),Y⟩ true =
   @WR ⟨P,H,ops,rest,Q,dst⟩ A (bH P (aK H) ⟨d,op,ty, "", #[],none⟩ A.eval A.h):=by
 rw [<-jP P (aK H) d op ty pos after g];exact iF _ _
theorem FN (X) (ops) (l) (B):@WB ⟨X,λ_=>gS P H ops Q l B⟩ false=@WO ⟨P,H,ops,l,Q⟩ B:=jx _ _
theorem Iy (c) (Y):@WB ⟨λ_=>wp P H c Q A,Y⟩ true=@W ⟨P,H,c,Q⟩ A:=iF _ _
theorem FL (c) (X):@WB ⟨X,λ_=>wp P H c Q A⟩ false=@W ⟨P,H,c,Q⟩ A:=jx _ _
theorem Se (ops) (rest) (dst) (v) (h):@WR ⟨P,H,ops,rest,Q,dst⟩ A (.val v h)=@WO ⟨P,H,ops,rest,Q⟩ (A.put dst v h):=propext Iff.rfl
theorem PY (ops) (rest) (dst) (h):@WR ⟨P,H,ops,rest,Q,dst⟩ A (.skip h)=@WO ⟨P,H,ops,rest,Q⟩ (A.put dst (.p (.tuple [])) h):=propext Iff.rfl
theorem PZ (k) (f) (args):@WR ⟨k⟩ A (.call f args)=@WF ⟨k⟩ A f args:=propext Iff.rfl
theorem MR (ops) (rest) (dst) (v):@WR ⟨P,H,ops,rest,Q,dst⟩ A (.panic v)=@WQ ⟨Q⟩ (.panic v) A:=propext Iff.rfl
theorem Iw (rs) (n) (R):@WQ ⟨gZ P rs n R⟩ .ret A=(A.bs=n/\bU P rs (R A.rc) A.tmps A.df .ret A.h):=propext Iff.rfl
theorem BI (rs) (n) (R):@WQ ⟨gZ P rs n R⟩ .normal A=(A.bs=n/\bU P rs (R A.rc) A.tmps A.df .ret A.h):=propext Iff.rfl
theorem Eo (rs) (n) (R) (v):@WQ ⟨gZ P rs n R⟩ (.panic v) A=(A.bs=n/\bU P rs (R A.rc) A.tmps A.df (.pan v) A.h):=propext Iff.rfl
def qE:AV->Option (List AV)->Option (List AV)
 |v,some l=>if v.single=true then some (v::l) else none
 |_,none=>none
def NJ:OR->Option (List AV)->Option (List AV)
 |.val v _,r=>qE v r
 |_,_=>none
def QD (R:AEnd->Heap->Prop) (h:Heap):Option AV->Prop
 |some v=>R (.ret v) h
 |none=>False
theorem Jz (rs) (R) (T) (h):bU P rs R T [] .ret h=QD R h (nt (ku P h T rs)):=propext Iff.rfl
theorem JA (rs) (R) (T) (h) (v):bU P rs R T [] (.pan v) h=R (.panic v) h:=propext Iff.rfl
theorem I4 (R) (h) (v):QD R h (some v)=R (.ret v) h:=propext Iff.rfl
theorem MO (h) (T):ku P h T []=some []:=rfl
theorem MN (h) (T) (t) (rs):ku P h T (.tmp t::rs)=qE (T t) (ku P h T rs):=by
 rw [ku.eq_2];cases hr:ku P h T rs<;>rfl
theorem KF (h) (T) (t) (ty) (rs):ku P h T (.cell t ty::rs)=NJ (mO P ty (T t) h) (ku P h T rs):=by
 rw [ku.eq_2];unfold Iu;dsimp only;generalize ku P h T rs=x;cases mO P ty (T t) h<;>cases x<;>rfl
theorem O' (v) (l):qE (.p v) (some l)=some (.p v::l):=rfl
theorem J9 (i j k o) (l):qE (.ptr i j k o) (some l)=some (.ptr i j k o::l):=rfl
theorem Fe (i j k o) (l):qE (.slice i j k o) (some l)=some (.slice i j k o::l):=rfl
theorem J' (cs) (l):qE (.agg cs) (some l)=some (.agg cs::l):=rfl
theorem H4 (f) (a c) (l):qE (.func f a c) (some l)=some (.func f a c::l):=rfl
theorem Ka (v) (h) (r):NJ (.val v h) r=qE v r:=rfl
theorem FF:nt (some [])=some (.p (.tuple [])):=rfl
theorem FE (v):nt (some [v])=some v:=rfl
theorem FD (v u) (l):nt (some (v::u::l))=some (pp (v::u::l)):=rfl
theorem aW {k} {b} (h1:b=true->@WB ⟨k⟩ true) (h2:b=false->@WB ⟨k⟩ false):@WB ⟨k⟩ b:=by
 cases b
 .exact h2 rfl
 .exact h1 rfl
theorem Sh (ops) (hs):@WD ⟨P,H,ops,[],Q⟩ hs A=@WQ ⟨Q⟩ .normal A:=propext Iff.rfl
theorem P4 (ops) (rest) (hs) (dst) (op) (ty) (pos) (after) :
  @WD ⟨P,H,ops,⟨dst,op,ty,pos,after,none⟩::rest,Q⟩ hs A=@oh ⟨P,H,ops,rest,Q,⟨dst,op,ty,pos,after,none⟩⟩ hs A (bD H ⟨dst,op,ty, "", #[],none⟩):=by
 unfold WD oh;simp only [bC,bi,qn];exact iF _ _
theorem MU (ops) (rest) (hs) (dst) (op) (ty) (pos) (after) (j) (b) :
  @WD ⟨P,H,ops,⟨dst,op,ty,pos,after,some (j,b)⟩::rest,Q⟩ hs A =
  @WN ⟨λ_=>@oh ⟨P,H,ops,rest,Q,⟨dst,op,ty,pos,after,some (j,b)⟩⟩ hs A (bD H ⟨dst,op,ty, "", #[],none⟩),
    λ_=>@WD ⟨P,H,ops,rest,Q⟩ hs (A.put dst (.p (.tuple [])) A.h)⟩ (pw A ((ops[j]?).bind (·.dst)) b):=propext Iff.rfl
theorem FK (k) (hs) (d) (Y):@WB ⟨λ_=>@oh ⟨k⟩ hs A d,Y⟩ true=@oh ⟨k⟩ hs A d:=iF _ _
theorem FM (k) (hs) (B) (X):@WB ⟨X,λ_=>@WD ⟨k⟩ hs B⟩ false=@WD ⟨k⟩ hs B:=jx _ _
theorem Es (ops) (l) (B) (Y):@WB ⟨λ_=>gS P H ops Q l B,Y⟩ true=@WO ⟨P,H,ops,l,Q⟩ B:=iF _ _
theorem Eu (ops) (rest) (d dst) (op) (ty) (pos) (after) (g) (X) :
  @WB ⟨X,λ_=>jV P A dst (gS P H ops Q rest) Q (bH P (aK H) ⟨d,op,ty,pos,after,g⟩ A.eval A.h)⟩ false =
   @WR ⟨P,H,ops,rest,Q,dst⟩ A (bH P (aK H) ⟨d,op,ty, "", #[],none⟩ A.eval A.h):=by
 rw [<-jP P (aK H) d op ty pos after g];exact jx _ _
theorem Iz (k) (hs) (B) (Y):@WB ⟨λ_=>@WD ⟨k⟩ hs B,Y⟩ true=@WD ⟨k⟩ hs B:=iF _ _
theorem Et (k) (hs) (d) (X):@WB ⟨X,λ_=>@oh ⟨k⟩ hs A d⟩ false=@oh ⟨k⟩ hs A d:=jx _ _
section
variable (ops:Array Oper) (rest:List Oper) (hs:Heap) (dst:Option Tmp) (op:Op) (ty:TypeId) (pos:String) (after:Array Edge) (g:Option (Nat×Bool))
theorem Qe:@oh ⟨P,H,ops,rest,Q,⟨dst,op,ty,pos,after,g⟩⟩ hs A .bar=@KN ⟨P,H,ops,rest,Q,⟨dst,op,ty,pos,after,g⟩⟩ A (bH P (aK H) ⟨dst,op,ty, "", #[],none⟩ A.eval A.h):=by
 rw [<-jP P (aK H) dst op ty pos after g];exact propext Iff.rfl
theorem KL:@oh ⟨P,H,ops,rest,Q,⟨dst,op,ty,pos,after,g⟩⟩ hs A .alloc=@W1 ⟨P,H,ops,rest,Q,⟨dst,op,ty,pos,after,g⟩⟩ hs A (bH P (aK H) ⟨dst,op,ty, "", #[],none⟩ A.eval A.h):=by
 rw [<-jP P (aK H) dst op ty pos after g];exact propext Iff.rfl
theorem Qf (t):@oh ⟨P,H,ops,rest,Q,⟨dst,op,ty,pos,after,g⟩⟩ hs A (.app t)=@WY ⟨P,H,ops,rest,Q,⟨dst,op,ty,pos,after,g⟩⟩ hs A (bH P (aK H) ⟨dst,op,ty, "", #[],none⟩ A.eval A.h):=by
 rw [<-jP P (aK H) dst op ty pos after g];exact propext Iff.rfl
theorem P':@oh ⟨P,H,ops,rest,Q,⟨dst,op,ty,pos,after,g⟩⟩ hs A .thr=@KI ⟨P,H,ops,rest,Q,⟨dst,op,ty,pos,after,g⟩⟩ hs A (bH P (aK H) ⟨dst,op,ty, "", #[],none⟩ A.eval A.h):=by
 rw [<-jP P (aK H) dst op ty pos after g];exact propext Iff.rfl
theorem Qd:@oh ⟨P,H,ops,rest,Q,⟨dst,op,ty,pos,after,g⟩⟩ hs A .cal=@WZ ⟨P,H,ops,rest,Q,⟨dst,op,ty,pos,after,g⟩⟩ hs A (bH P (aK H) ⟨dst,op,ty, "", #[],none⟩ A.eval A.h):=by
 rw [<-jP P (aK H) dst op ty pos after g];exact propext Iff.rfl
theorem KJ:@oh ⟨P,H,ops,rest,Q,⟨dst,op,ty,pos,after,g⟩⟩ hs A .quiet=@Er ⟨P,H,ops,rest,Q,⟨dst,op,ty,pos,after,g⟩⟩ hs A.h A (bH P (aK H) ⟨dst,op,ty, "", #[],none⟩ A.eval A.h):=by
 rw [<-jP P (aK H) dst op ty pos after g];exact propext Iff.rfl
theorem Qc:@oh ⟨P,H,ops,rest,Q,⟨dst,op,ty,pos,after,g⟩⟩ hs A .low=@Er ⟨P,H,ops,rest,Q,⟨dst,op,ty,pos,after,g⟩⟩ hs hs A (bH P (aK H) ⟨dst,op,ty, "", #[],none⟩ A.eval hs):=by
 rw [<-jP P (aK H) dst op ty pos after g];exact propext Iff.rfl
theorem M2 (j sz):@oh ⟨P,H,ops,rest,Q,⟨dst,op,ty,pos,after,g⟩⟩ hs A (.slot j sz)=@WX ⟨P,H,ops,rest,Q,⟨dst,op,ty,pos,after,g⟩⟩ hs A j sz (fS P A.eval op):=propext Iff.rfl
theorem Qa (T) (a x):@oh ⟨P,H,ops,rest,Q,⟨dst,.store T a x,ty,pos,after,g⟩⟩ hs A .sto=@W0 ⟨P,H,ops,rest,Q,⟨dst,.store T a x,ty,pos,after,g⟩⟩ hs A T (A.eval a) (A.eval x):=propext Iff.rfl
theorem Qb (T) (a x):@oh ⟨P,H,ops,rest,Q,⟨dst,.store T a x,ty,pos,after,g⟩⟩ hs A .nop=(fM P T (A.eval a) (A.eval x) A.h=.skip A.h/\@WD ⟨P,H,ops,rest,Q⟩ hs (A.put dst (.p (.tuple [])) A.h)):=propext Iff.rfl
theorem P9 (T) (y) (id ver i k):@W0 ⟨P,H,ops,rest,Q,⟨dst,op,ty,pos,after,g⟩⟩ hs A T (.ptr id ver i k) y =
  (gO hs id=true/\@WW ⟨P,H,ops,rest,Q,⟨dst,op,ty,pos,after,g⟩⟩ hs A (fM P T (.ptr id ver i k) y A.h)):=propext Iff.rfl
theorem MV (h):@WW ⟨P,H,ops,rest,Q,⟨dst,op,ty,pos,after,g⟩⟩ hs A (.skip h)=@WD ⟨P,H,ops,rest,Q⟩ hs (A.put dst (.p (.tuple [])) h):=propext Iff.rfl
theorem MW (j sz) (z):@WX ⟨P,H,ops,rest,Q,⟨dst,op,ty,pos,after,g⟩⟩ hs A j sz (some z) =
  (z.cells.map (·.length)=some sz/\gO hs (hs.length-1-j)=true/\A.h[hs.length-1-j]?=some (.row sz [])/\@WD ⟨P,H,ops,rest,Q⟩ hs (A.put dst (.ptr (hs.length-1-j) 1 0 0) (A.h.set (hs.length-1-j) (.row sz [z])))):=propext Iff.rfl
theorem Qg (v) (h):@KN ⟨P,H,ops,rest,Q,⟨dst,op,ty,pos,after,g⟩⟩ A (.val v h)=@WD ⟨P,H,ops,rest,Q⟩ (A.put dst v h).h (A.put dst v h):=propext Iff.rfl
theorem M3 (h):@KN ⟨P,H,ops,rest,Q,⟨dst,op,ty,pos,after,g⟩⟩ A (.skip h)=@WD ⟨P,H,ops,rest,Q⟩ (A.put dst (.p (.tuple [])) h).h (A.put dst (.p (.tuple [])) h):=propext Iff.rfl
theorem KM (v):@KN ⟨P,H,ops,rest,Q,⟨dst,op,ty,pos,after,g⟩⟩ A (.panic v)=@WQ ⟨Q⟩ (.panic v) A:=propext Iff.rfl
theorem Qh (v) (h):@W1 ⟨P,H,ops,rest,Q,⟨dst,op,ty,pos,after,g⟩⟩ hs A (.val v h)=((∃ t,h=A.h++t)/\@WD ⟨P,H,ops,rest,Q⟩ hs (A.put dst v h)):=propext Iff.rfl
theorem P8 (v) (h):@WY ⟨P,H,ops,rest,Q,⟨dst,op,ty,pos,after,g⟩⟩ hs A (.val v h)=(NR hs A.h h/\@WD ⟨P,H,ops,rest,Q⟩ hs (A.put dst v h)):=propext Iff.rfl
theorem P5 (v) (h0):@Er ⟨P,H,ops,rest,Q,⟨dst,op,ty,pos,after,g⟩⟩ hs h0 A (.val v h0)=@WD ⟨P,H,ops,rest,Q⟩ hs (A.put dst v A.h) :=
 propext ⟨λh=>h.2,λh=>⟨rfl,h⟩⟩
end
end
variable {P:Program}
def pk (M:Nat->Prop) (w:World) (cargs:Array Value) (pargs:List PV):Prop:=cargs.size=pargs.length/\∀ (i:Nat) (c:PV),pargs[i]?=some c->RepP M w (cargs.getD i undef) c
def ah (P:Program) (f:FuncId) (pargs:List PV) (v:PV):Prop :=
 ∀ (M0:Nat->Prop) (w:World) (cargs:Array Value),(∀ b,M0 b->b<w.heap.size)->tA P w->pk M0 w cargs pargs ->
  (∀ w',(callFunc f cargs).run P w'=.ok (.enter f cargs) w') /\
  Calls P f cargs w λe w'=>∃ v',e=.returned v'/\RepP M0 w' v' v/\Fr [] w w'
theorem pu {M0:Nat->Prop} {w:World} (h:∀ b,M0 b->b<w.heap.size) (hg:tA P w):HOk P M0 ⟨[],[],w⟩ where
 gl:=⟨hg,λb _ hb=>by simp [Own] at hb⟩
 len:=rfl
 lt:=λb hb=>by simp [Own] at hb
 m0:=λb hb=>⟨h b hb,by simp [Own]⟩
 inj:=λi j b hi=>by simp at hi
 obj:=λid o ho=>by simp at ho
theorem EY (hD:dw P) {H} {f} {fn} {c} {pargs} {v} {rs} {n} (hf:P.funcs[f]?=some fn) (hb:fn.body=some c) (hrs:fn.results.toList=rs) (hn:fn.ntmps=n) (hok:aj H fn=true)
  (hlen:pargs.length<=n) (hw:SW P H c (gZ P rs 0 (λ_ r _=>r=.ret (.p v))) (aR n .no (pargs.map .p) [])):ah P f pargs v:=by
 intro M0 w cargs hM hg ha;have ha':da (Rep M0 ⟨[],[],w⟩) cargs (pargs.map .p):=by
  refine ⟨by simpa using ha.1,λi c hc=>?_⟩;simp only [cg,bz] at hc;obtain ⟨q,hq,rfl⟩:=hc;exact aD ((ha.2 i q hq).mono (λ_ _ _=>rfl) (λb hb=>by
   rcases hb with hb | hb
   .exact .inl hb
   .simp [Own] at hb))
 have:=vY hD (h:=[]) (R:=λr _=>r=.ret (.p v)) hf hb hrs hn hok (by simpa using hlen) hw M0 [] w cargs (pu hM hg) ha';refine ⟨this.1,this.2.mono λe w' h=>?_⟩;obtain ⟨r,h',m',rfl,hev,hk,hend⟩:=h
 cases e with
 |returned v'=>exact ⟨v',rfl,RepP.less (show RepP (Avoid M0 m') w' v' v from hend) (λb hb=>.inl hb),hev.fr⟩
 |panicked ch=>exact hend.elim
 |outgrown=>exact hend.elim
theorem EX (hD:dw P) {H} {f} {fn} {c} {pargs} {v} {rs} {n} (hf:P.funcs[f]?=some fn) (hb:fn.body=some c) (hrs:fn.results.toList=rs) (hn:fn.ntmps=n) (hok:aj H fn=true)
  (hlen:pargs.length<=n) (hw:wp P H c (gZ P rs 0 (λ_ r _=>r=.ret (.p v))) (aR n .no (pargs.map .p) [])):ah P f pargs v :=
 EY hD hf hb hrs hn hok hlen (G' hD hw)
theorem qC {M0} {S} (hS:HOk P M0 S) {w'} (h:Fr [] S.w w'):HOk P M0 ⟨S.m,S.h,w'⟩/\Ev S.h.length S ⟨S.m,S.h,w'⟩:=by
 have hall:∀ b,b<S.w.heap.size->w'.heap[b]?=S.w.heap[b]?:=λb hb=>h.block b hb (by simp [Own])
 have hev:Ev S.h.length S ⟨S.m,S.h,w'⟩ :=
  {fr:=⟨h.os,h.tape,h.output,h.size,λb hb _=>hall b hb,h.shape⟩
   sub:=λb hb=>.inl hb
   obj:=λid o _ ho=>⟨o,ho,ObjEv.refl _ _⟩ }
 exact ⟨
  {len:=hS.len
   lt:=λb hb=>iH (hS.lt b hb) h.size
   m0:=λb hb=>⟨iH (hS.m0 b hb).1 h.size,(hS.m0 b hb).2⟩
   inj:=hS.inj
   gl:=hev.glob hS.gl
   obj:=λid o ho=>(hS.obj id o ho).keep hev λb hb=>hall b (hS.lt b (aI (cc hb))) },hev⟩
theorem pb {f} {pargs} {v} {h} (hc:ah P f pargs v):ay P f (pargs.map .p) h (λr h'=>r=.ret (.p v)/\h'=h):=by
 intro M0 m w cargs hS ha;have hM:∀ b,Avoid M0 m b->b<w.heap.size:=λb hb=>by
  rcases hb with hb | hb
  .exact (hS.m0 b hb).1
  .exact hS.lt b hb
 have hargs:pk (Avoid M0 m) w cargs pargs:=by
  refine ⟨by simpa using ha.1,λi c hi=>?_⟩;have:=ha.2 i (.p c) (by simp [hi]);exact this
 obtain ⟨h1,h2⟩:=hc (Avoid M0 m) w cargs hM hS.gl.1 hargs;refine ⟨h1,h2.mono λe w' h=>?_⟩;obtain ⟨v',rfl,hv,hfr⟩:=h;obtain ⟨hk,hev⟩:=qC hS hfr;exact ⟨.ret (.p v),_,m,⟨rfl,rfl⟩,hev,hk,hv⟩
theorem ay.mono {f} {args} {h} {R R'} (hc:ay P f args h R) (hr:∀ r h',R r h'->R' r h'):ay P f args h R' :=
 λM0 m w cargs hS ha=>let ⟨h1,h2⟩:=hc M0 m w cargs hS ha
  ⟨h1,h2.mono λ_ _ hb=>let ⟨r,h',m',hR,rest⟩:=hb;⟨r,h',m',hr r h' hR,rest⟩⟩
theorem ae {P} {H} {ops} {rest} {Q} {dst} {A} {f} {args} {pargs} {v} (hc:ah P f pargs v) (ha:args=pargs.map .p)
  (h:@WO ⟨P,H,ops,rest,Q⟩ (A.put dst (.p v) A.h)):@WF ⟨P,H,ops,rest,Q,dst⟩ A f args:=by
 subst ha;refine (pb (h:=A.h) hc).mono λr h' hr=>?_;obtain ⟨rfl,rfl⟩:=hr;exact h
theorem aC {P} {H} {ops} {rest} {Q} {o} {hs h0} {A} {f} {args} {pargs} {v} (hc:ah P f pargs v) (ha:args=pargs.map .p)
  (h:@WD ⟨P,H,ops,rest,Q⟩ hs (A.put o.dst (.p v) A.h)):@Er ⟨P,H,ops,rest,Q,o⟩ hs h0 A (.call f args):=by
 subst ha;exact ⟨.p v,λ_ _=>pb hc,h⟩
end Abs
end Go.Proofs.YtfafnkpfamgbbaaGreatDoor
