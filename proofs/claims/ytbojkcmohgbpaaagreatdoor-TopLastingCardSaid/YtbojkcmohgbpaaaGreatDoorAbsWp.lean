/-
  DEFINITIONS: what stands for an activation; what is known of calls; what a code comes to from an abstract state. No conditions.
-/
import Derived.Test.YtbojkcmohgbpaaaGreatDoorAbsOpsF
import Derived.AtR
import Derived.Recover
namespace Go.Proofs.YtbojkcmohgbpaaaGreatDoor
namespace Abs
def EndRep (M0 : Nat → Prop) (S : Mem) : Ending → AEnd → Prop
  | .returned v', .ret v => Rep M0 S v' v
  | .panicked ch, .panic v => ∃ v', ch = [{ v := v', recovered := false }] ∧ RepP (Avoid M0 S.m) S.w v' v
  | _, _ => False
def Behind (P : Program) (M0 : Nat → Prop) (S : Mem) (R : AEnd → Heap → Prop) (e : Ending) (w' : World) : Prop :=
  ∃ (r : AEnd) (h' : Heap) (m' : List (Option Nat)), R r h' ∧ Ev S.h.length S ⟨m', h', w'⟩ ∧ HOk P M0 ⟨m', h', w'⟩ ∧ EndRep M0 ⟨m', h', w'⟩ e r
def HCall (P : Program) (f : FuncId) (args : List AV) (h : Heap) (R : AEnd → Heap → Prop) : Prop :=
  ∀ (M0 : Nat → Prop) (m : List (Option Nat)) (w : World) (cargs : Array Value), HOk P M0 ⟨m, h, w⟩ → RepL (Rep M0 ⟨m, h, w⟩) cargs args →
    (∀ w', (callFunc f cargs).run P w' = .ok (.enter f cargs) w') ∧ Calls P f cargs w (Behind P M0 ⟨m, h, w⟩ R)
def HYld (P : Program) (l : Nat) (args : List AV) (h : Heap) (R : AEnd → Heap → Prop) : Prop :=
  (∃ o, h[l]? = some o ∧ o.tag = some .yl) ∧
  ∀ (M0 : Nat → Prop) (m : List (Option Nat)) (w : World) (cargs : Array Value) (b : Nat), HOk P M0 ⟨m, h, w⟩ → RepL (Rep M0 ⟨m, h, w⟩) cargs args → m.getD l none = some b →
    ∃ (f : FuncId) (tmps : Array Value) (assign body : Code), (Instr.yield b cargs).run P w = .ok (.round b f tmps assign body) w ∧
      ∀ (c : Frame) (cs : List Frame), ∃ e w', Behind P M0 ⟨m, h, w⟩ R e w' ∧
        match e with
        | .returned v => Steps P (lone (Frame.round b f tmps assign body .normal) (c :: cs) w) (lone (c.finish v) cs w')
        | .panicked ch => Steps P (lone (Frame.round b f tmps assign body .normal) (c :: cs) w) (lone (c.raise ch) cs w')
        | .outgrown => False
inductive AMode where
  | ret
  | pan (v : PV)
  | recd (v : PV)
def aSettle : AMode → AMode
  | .recd _ => .ret
  | u => u
def ModeRep (M0 : Nat → Prop) (S : Mem) (um : FrameMode) : AMode → Prop
  | .ret => um = .returning
  | .pan v => ∃ v', um = .panicking [{ v := v', recovered := false }] ∧ RepP (Avoid M0 S.m) S.w v' v
  | .recd _ => ∃ v', um = .panicking [{ v := v', recovered := true }]
def DCall (P : Program) (f : FuncId) (args : List AV) (u : AMode) (h : Heap) (R : AEnd → AMode → Heap → Prop) : Prop :=
  ∀ (M0 : Nat → Prop) (m : List (Option Nat)) (w : World) (cargs : Array Value) (um : FrameMode), HOk P M0 ⟨m, h, w⟩ → RepL (Rep M0 ⟨m, h, w⟩) cargs args → ModeRep M0 ⟨m, h, w⟩ um u →
    (∀ w', (callFunc f cargs).run P w' = .ok (.enter f cargs) w') ∧
    CallsD P f cargs um w fun e um' w' => ∃ (r : AEnd) (u' : AMode) (h' : Heap) (m' : List (Option Nat)), R r u' h' ∧ Ev h.length ⟨m, h, w⟩ ⟨m', h', w'⟩ ∧ HOk P M0 ⟨m', h', w'⟩ ∧
      EndRep M0 ⟨m', h', w'⟩ e r ∧ ModeRep M0 ⟨m', h', w'⟩ um' u'
def DefRep (P : Program) (M0 : Nat → Prop) (S : Mem) (d : Deferred) : ADef → Prop
  | .fn g args => ∃ (fv : Fn) (cap dargs cargs : Array Value), d = { target := .fn fv cap, args := dargs } ∧
      (∀ w, (invoke (.fn fv cap) dargs).run P w = (callFunc g cargs).run P w) ∧ RepL (Rep M0 S) cargs args
  | .collected id => ∃ b, d = { target := .collected b, args := #[] } ∧ (S.h[id]? = some .dead ∨ (S.h[id]? = some .dblock ∧ S.m.getD id none = some b))
def DefsRep (P : Program) (M0 : Nat → Prop) (S : Mem) : List Deferred → List ADef → Prop
  | [], [] => True
  | d :: ds, x :: xs => DefRep P M0 S d x ∧ DefsRep P M0 S ds xs
  | _, _ => False
def RcRep (M0 : Nat → Prop) (S : Mem) (b : Frame) (cs0 : List Frame) : Rc → Prop
  | .no => b.roundOf = none
  | .rnd => b.roundOf.isSome = true ∧ b.kind = .normal
  | .none => b.roundOf = none ∧ b.kind = .deferred ∧ recoverD cs0 = none
  | .pend v => b.roundOf = none ∧ b.kind = .deferred ∧ ∃ v' cs1, recoverD cs0 = some (v', cs1) ∧ RepP (Avoid M0 S.m) S.w v' v
  | .got _ => b.roundOf = none ∧ b.kind = .deferred ∧ ∃ v' cs1, recoverD cs0 = some (v', cs1)
def csAt : Rc → List Frame → List Frame
  | .got _, cs => match recoverD cs with | some (_, c) => c | none => cs
  | _, cs => cs
structure Rel (P : Program) (M0 : Nat → Prop) (S0 : Mem) (b : Frame) (cs0 : List Frame) (m : List (Option Nat)) (A : AAct) (a : Act) (w : World) : Prop where
  size : a.tmps.size = A.n
  tmps : ∀ t, Rep M0 ⟨m, A.h, w⟩ (a.tmps.getD t undef) (A.tmps t)
  hok : HOk P M0 ⟨m, A.h, w⟩
  ev : Ev A.bs S0 ⟨m, A.h, w⟩
  le : A.bs ≤ A.h.length ∧ ∃ f, P.funcs[b.fn]? = some f
  df : DefsRep P M0 ⟨m, A.h, w⟩ a.defers A.df
  rc : RcRep M0 ⟨m, A.h, w⟩ b cs0 A.rc
def Weak (P : Program) (A B : AAct) : Prop :=
  B.n = A.n ∧ B.rc = A.rc ∧ ∀ M0 S0 b cs0 m a w, Rel P M0 S0 b cs0 m A a w → ∃ m', Rel P M0 S0 b cs0 m' B a w
def endK (K : AV → Heap → Prop) (Q : PV → Heap → Prop) : AEnd → Heap → Prop
  | .ret v, h => K v h
  | .panic v, h => Q v h
def dfrK (K : Prop) : Rc → Prop
  | .rnd => False
  | _ => K
def recK (A : AAct) (K : AAct → PV → Prop) : Rc → Prop
  | .none => K A .niliface
  | .pend v => K { A with rc := .got v } v
  | .got _ => K A .niliface
  | _ => False
def orK (P : Program) (A : AAct) (dst : Option Tmp) (K : AAct → Prop) (Q : Ex → AAct → Prop) : OR → Prop
  | .val v h => K (A.put dst v h)
  | .skip h => K (A.put dst (.p (.tuple [])) h)
  | .call f args => HCall P f args A.h (endK (fun v h => K (A.put dst v h)) (fun v h => Q (.panic v) { A with h := h }))
  | .yld l args => HYld P l args A.h (endK (fun v h => K (A.put dst v h)) (fun v h => Q (.panic v) { A with h := h }))
  | .dfr d => dfrK (K ({ A with df := d :: A.df }.put dst (.p (.tuple [])) A.h)) A.rc
  | .recover => recK A (fun B v => K (B.put dst (.p v) A.h)) A.rc
  | .panic v => Q (.panic v) A
  | .stuck => False
def wantK (X Y : Unit → Prop) : Option Bool → Prop
  | some b => Both b X Y
  | none => False
def condK (X Y : Unit → Prop) : AV → Prop
  | .p (.bool b) => Both b X Y
  | _ => False
def seqK (K : AAct → Prop) (Q : Ex → AAct → Prop) : Ex → AAct → Prop
  | .normal, A => K A
  | .exit j, A => Q (.exit j) A
  | .ret, A => Q .ret A
  | .panic v, A => Q (.panic v) A
def blockK (id : Nat) (Q : Ex → AAct → Prop) : Ex → AAct → Prop
  | .exit j, A => if j = id then Q .normal A else Q (.exit j) A
  | .normal, A => Q .normal A
  | .ret, A => Q .ret A
  | .panic v, A => Q (.panic v) A
inductive Hint where
  | std | mut | low | bar
    | slot (j sz : Nat)
    | sto
    | nop
    | app (t : Nat)
    | thr
  deriving DecidableEq
def Hint.isMut : Hint → Bool
  | .mut => true
  | _ => false
abbrev Hints := Nat → Hint
def mutOf (H : Hints) : Nat → Bool := fun d => (H d).isMut
def wpOps (P : Program) (H : Hints) (ops : Array Oper) (Q : Ex → AAct → Prop) : List Oper → AAct → Prop
  | [], A => Q .normal A
  | o :: rest, A =>
      wantK (fun _ => orK P A o.dst (wpOps P H ops Q rest) Q (aOp P (mutOf H) o A.eval A.h))
        (fun _ => wpOps P H ops Q rest (A.put o.dst (.p (.tuple [])) A.h)) (aWanted ops A o)
def AObj.isDead : AObj → Bool
  | .dead => true
  | _ => false
def SubH (h h' : Heap) : Prop := ∀ (id : Nat) (o : AObj), h[id]? = some o → o.isDead = false → h'[id]? = some o
inductive DC where
  | bar | alloc | quiet | low
  | slot (j sz : Nat)
  | sto
  | nop
  | app (t : Nat)
  | thr
  deriving DecidableEq
def isAllocOp : Op → Bool
  | .alloc _ => true
  | .box _ _ => true
  | .makeSlice _ _ _ => true
  | .makeMap _ none => true
  | _ => false
def isSlotOp : Op → Bool
  | .alloc _ => true
  | .box _ _ => true
  | _ => false
def isQuietOp : Op → Bool
  | .move _ | .assign _ | .pick _ _ _ | .build _ _ | .buildSlice _ _ _ | .load _ _ | .nilCheck _ | .binOp _ _ _ _ _ | .unOp _ _ _ | .convert _ _ _ | .makeInterface _ _ | .makeFunc _ _ _
  | .slice _ _ _ _ _ | .fieldAddr _ _ _ | .field _ _ _ | .indexAddr _ _ _ | .index _ _ _ | .extract _ _ | .lookup _ _ _ _ | .typeAssert _ _ _ _ => true
  | .call c =>
    match c.callee with
    | .value _ => true
    | .builtin .len => true
    | .builtin .min => true
    | .builtin .max => true
    | _ => false
  | _ => false
def isAppendOp : Op → Bool
  | .call c => match c.callee with | .builtin .append => true | _ => false
  | _ => false
def valNo : Operand → Nat
  | .tmp x => x
  | _ => 999
def stoDC (H : Hints) : Op → DC
  | .store _ (.tmp t) y => match H (1000000 + 1000 * t + valNo y) with | .sto => .sto | .nop => .nop | _ => .bar
  | _ => .bar
def dcls (H : Hints) (o : Oper) : DC :=
  match o.dst with
  | none => stoDC H o.op
  | some d =>
    match H d with
    | .std => if isAllocOp o.op = true then .alloc else if isQuietOp o.op = true then .quiet else .bar
    | .mut => .alloc
    | .low => if isQuietOp o.op = true then .low else .bar
    | .slot j sz => if isSlotOp o.op = true then .slot j sz else .bar
    | .app t => if isAppendOp o.op = true then .app t else .bar
    | .thr => if isQuietOp o.op = true then .thr else .bar
    | _ => .bar
def quK (P : Program) (h : Heap) (K : AV → Prop) : OR → Prop
  | .val v h' => h' = h ∧ K v
  | .call f args => ∃ v, (∀ h', SubH h h' → HCall P f args h' (fun r h'' => r = .ret v ∧ h'' = h')) ∧ K v
  | _ => False
def allK (h : Heap) (K : AV → Heap → Prop) : OR → Prop
  | .val v h' => (∃ t, h' = h ++ t) ∧ K v h'
  | _ => False
def slotVal (P : Program) (e : Operand → AV) : Op → Option AV
  | .alloc T => (zeroT P T).map .p
  | .box _ x => some (e x)
  | _ => none
def deadAt (hs : Heap) (id : Nat) : Bool :=
  match hs[id]? with
  | some .dead => true
  | none => true
  | _ => false
def slotK (hs h : Heap) (j sz : Nat) (K : AV → Heap → Prop) : Option AV → Prop
  | some z => z.cells.map (·.length) = some sz ∧ deadAt hs (hs.length - 1 - j) = true ∧ h[hs.length - 1 - j]? = some (.row sz []) ∧ K (.ptr (hs.length - 1 - j) 1 0 0) (h.set (hs.length - 1 - j) (.row sz [z]))
  | none => False
def skipK (K : Heap → Prop) : OR → Prop
  | .skip h => K h
  | _ => False
def stoK (P : Program) (hs h : Heap) (e : Operand → AV) (K : Heap → Prop) : Op → Prop
  | .store T a x => match e a with
    | .ptr id ver i o => deadAt hs id = true ∧ skipK K (aStore P T (.ptr id ver i o) (e x) h)
    | _ => False
  | _ => False
def nopK (P : Program) (h : Heap) (e : Operand → AV) (K : Prop) : Op → Prop
  | .store T a x => aStore P T (e a) (e x) h = .skip h ∧ K
  | _ => False
def appOk (hs h h' : Heap) : Prop := (∃ t, h' = h ++ t) ∨ ∃ id ob, h' = h.set id ob ∧ deadAt hs id = true
def appK (hs h : Heap) (K : AV → Heap → Prop) : OR → Prop
  | .val v h' => appOk hs h h' ∧ K v h'
  | _ => False
def thrK (P : Program) (Q : Ex → AAct → Prop) (A : AAct) (K : AV → Prop) : OR → Prop
  | .call f args => (∃ v, (∀ h', SubH A.h h' → HCall P f args h' (fun r h'' => r = .ret v ∧ h'' = h')) ∧ K v) ∨
      ∃ v, HCall P f args A.h (fun r h'' => r = .panic v ∧ h'' = A.h) ∧ ∀ T, Q (.panic v) { A with tmps := T }
  | _ => False
def dcK (X Y Z W : Unit → Prop) (U : Nat → Nat → Prop) (V N E R : Unit → Prop) : DC → Prop
  | .bar => X ()
  | .alloc => Y ()
  | .quiet => Z ()
  | .low => W ()
  | .slot j sz => U j sz
  | .sto => V ()
  | .nop => N ()
  | .app _ => E ()
  | .thr => R ()
def wpDraw (P : Program) (H : Hints) (ops : Array Oper) (Q : Ex → AAct → Prop) : List Oper → Heap → AAct → Prop
  | [], _, A => Q .normal A
  | o :: rest, hs, A =>
      wantK (fun _ => dcK
          (fun _ => orK P A o.dst (fun B => wpDraw P H ops Q rest B.h B) Q (aOp P (mutOf H) o A.eval A.h))
          (fun _ => allK A.h (fun v h => wpDraw P H ops Q rest hs (A.put o.dst v h)) (aOp P (mutOf H) o A.eval A.h))
          (fun _ => quK P A.h (fun v => wpDraw P H ops Q rest hs (A.put o.dst v A.h)) (aOp P (mutOf H) o A.eval A.h))
          (fun _ => quK P hs (fun v => wpDraw P H ops Q rest hs (A.put o.dst v A.h)) (aOp P (mutOf H) o A.eval hs))
          (fun j sz => slotK hs A.h j sz (fun v h => wpDraw P H ops Q rest hs (A.put o.dst v h)) (slotVal P A.eval o.op))
          (fun _ => stoK P hs A.h A.eval (fun h => wpDraw P H ops Q rest hs (A.put o.dst (.p (.tuple [])) h)) o.op)
          (fun _ => nopK P A.h A.eval (wpDraw P H ops Q rest hs (A.put o.dst (.p (.tuple [])) A.h)) o.op)
          (fun _ => appK hs A.h (fun v h => wpDraw P H ops Q rest hs (A.put o.dst v h)) (aOp P (mutOf H) o A.eval A.h))
          (fun _ => thrK P Q A (fun v => wpDraw P H ops Q rest hs (A.put o.dst v A.h)) (aOp P (mutOf H) o A.eval A.h))
          (dcls H o))
        (fun _ => wpDraw P H ops Q rest hs (A.put o.dst (.p (.tuple [])) A.h)) (aWanted ops A o)
def resvs (H : Hints) : List Oper → List Nat
  | [] => []
  | o :: l => match dcls H o with | .slot _ sz => sz :: resvs H l | _ => resvs H l
def stoIds (H : Hints) (T : Nat → AV) : List Oper → List Nat
  | [] => []
  | o :: l => match dcls H o, o.op with
    | .sto, .store _ (.tmp t) _ => (match T t with | .ptr id _ _ _ => id :: stoIds H T l | _ => stoIds H T l)
    | .app t, _ => (match T t with | .slice id _ _ _ => id :: stoIds H T l | _ => stoIds H T l)
    | _, _ => stoIds H T l
def maskL (h : Heap) : List Nat → Heap
  | [] => h
  | id :: l => maskL (h.set id .dead) l
def drawHs (H : Hints) (ops : List Oper) (A : AAct) : Heap := maskL A.h (stoIds H A.tmps ops) ++ (resvs H ops).map fun _ => .dead
def drawA (H : Hints) (ops : List Oper) (A : AAct) : AAct := { A with h := A.h ++ (resvs H ops).map fun sz => .row sz [] }
def jumpK (Q : Ex → AAct → Prop) (A : AAct) : Option Code → Prop
  | none => Q .normal A
  | some .ret => Q .ret A
  | some (.exit id) => Q (.exit id) A
  | _ => False
def loopEnd (Q : Ex → AAct → Prop) (A : AAct) (l : Nat) : Option AObj → Prop
  | some (.loop _ _ _ _ _ st pend) => st ≠ .busy ∧ jumpK Q { A with h := A.h.set l .dead } pend
  | _ => False
def rangeK (P : Program) (A : AAct) (h : Heap) (l : Nat) (Q : Ex → AAct → Prop) : OR → Prop
  | .call g args => HCall P g args h (endK (fun _ h' => loopEnd Q { A with h := h', df := .collected l :: A.df } (l + 1) h'[l + 1]?)
      (fun v h' => Q (.panic v) { A with h := h', df := .collected l :: A.df }))
  | _ => False
def wp (P : Program) (H : Hints) : Code → (Ex → AAct → Prop) → AAct → Prop
  | .skip, Q, A => Q .normal A
  | .region _ ops false, Q, A => wpOps P H ops Q ops.toList A
  | .region _ ops true, Q, A => wpDraw P H ops Q ops.toList (drawHs H ops.toList A) (drawA H ops.toList A)
  | .seq a b, Q, A => wp P H a (seqK (wp P H b Q) Q) A
  | .cond c x y, Q, A => condK (fun _ => wp P H x Q A) (fun _ => wp P H y Q A) (A.eval c)
  | .block id b, Q, A => wp P H b (blockK id Q) A
  | .loop b, Q, A => ∀ X : AAct → Prop, (∀ B, wp P H b (seqK (fun C => ∃ D, Weak P C D ∧ X D) Q) B → X B) → ∃ B, Weak P A B ∧ X B
  | .rangeFunc g ps assign body, Q, A => dfrK (rangeK P A (A.h ++ [.dblock, .loop A.n A.tmps ps assign body .ready none]) A.h.length Q (aInvoke (A.eval g) [.ref .yl (A.h.length + 1)])) A.rc
  | .exit id, Q, A => Q (.exit id) A
  | .ret, Q, A => Q .ret A
  | .scope b, Q, A => wp P H b Q A
  | .label _, Q, A => Q .normal A
  | _, _, _ => False
def dstOk (n : Nat) (o : Oper) : Bool := match o.dst with | some d => decide (d < n) | none => true
def befBit (b : Array Nat) (i j : Nat) : Bool := (b.getD j 0).testBit i
def pairDC : DC → DC → Bool
  | .alloc, .low => true
  | .quiet, .alloc | .quiet, .quiet | .quiet, .low => true
  | .low, .alloc | .low, .quiet | .low, .low | .low, .slot _ _ | .low, .sto => true
  | .slot _ _, .low | .slot _ _, .slot _ _ => true
  | .sto, .low => true
  | .app _, .low | .low, .app _ => true
  | .nop, .low | .nop, .quiet | .nop, .nop | .low, .nop | .quiet, .nop => true
  | .quiet, .thr | .low, .thr => true
  | _, _ => false
def isFreeOp (o : Oper) : Bool :=
  match o.guard, o.op with
  | none, .move _ => true
  | none, .assign _ => true
  | _, _ => false
def isThr : DC → Bool
  | .thr => true
  | _ => false
def isQui : DC → Bool
  | .quiet => true
  | _ => false
def pairOk (H : Hints) (ops : Array Oper) (x y : Oper) : Bool := (pairDC (dcls H x) (dcls H y) || (isThr (dcls H x) && isFreeOp y && isQui (dcls H y))) && (Oper.apart ops x y)
def drawOk (H : Hints) (ops : Array Oper) : Bool :=
  let b := Region.before ops
  let l := ops.toList.zipIdx
  l.all fun (y, j) =>
    (y.after.all fun e => !Region.binds .any e || decide (e.on < j)) &&
    (match y.guard with | some (g, _) => befBit b g j | none => true) &&
    Region.noSelect ops &&
    l.all fun (x, i) => !decide (i < j) || befBit b i j || pairOk H ops x y
def okCode (H : Hints) (n : Nat) : Code → Bool
  | .region _ ops false => ops.toList.all (dstOk n)
  | .region _ ops true => ops.toList.all (dstOk n) && drawOk H ops
  | .seq a b => okCode H n a && okCode H n b
  | .cond _ a b => okCode H n a && okCode H n b
  | .block _ b => okCode H n b
  | .loop b => okCode H n b
  | .rangeFunc _ _ a b => okCode H n a && okCode H n b
  | .scope b => okCode H n b
  | _ => true
end Abs
end Go.Proofs.YtbojkcmohgbpaaaGreatDoor
