/-
  CONTRACTS: numbers read out of texts; panics of the reader. No conditions but those in the theorems' heads.
-/
import Derived.Test.YtdellinghbppgaaGreatDoorHrTxt
import Derived.Test.YtdellinghbppgaaGreatDoorStrAll
import Derived.Lib.AtoiTie
namespace Go.Proofs.YtdellinghbppgaaGreatDoor
namespace Abs
set_option linter.unusedSimpArgs false
set_option linter.unusedVariables false
set_option maxRecDepth 4000

/-! digits and back -/
theorem decFrom_append (a b : List UInt8) : ∀ acc, Lib.decFrom acc (a ++ b) = (Lib.decFrom acc a).bind fun x => Lib.decFrom x b := by
  induction a with
  | nil => intro acc; rfl
  | cons x r ih =>
    intro acc
    rw [List.cons_append, Lib.decFrom, Lib.decFrom]
    cases Lib.digitVal x with
    | none => rfl
    | some d => exact ih _
theorem digit_val {d : Nat} (h : d < 10) : Lib.digitVal (UInt8.ofNat (48 + d)) = some d := by
  have e : (UInt8.ofNat (48 + d)).toNat = 48 + d := by simp; omega
  rw [Lib.digitVal, e, if_pos (by omega)]
  congr 1; omega
theorem decFrom_dec (n : Nat) : Lib.decFrom 0 (Lib.decDigits n) = some n := by
  induction n using Nat.strongRecOn with
  | ind n ih =>
    rw [Lib.decDigits]
    split
    · rename_i h
      simp only [Lib.decFrom, digit_val h, Nat.zero_mul, Nat.zero_add]
    · rename_i h
      rw [decFrom_append, ih (n / 10) (by omega)]
      simp only [Option.bind_some, Lib.decFrom, digit_val (Nat.mod_lt n (by omega : 0 < 10))]
      congr 1; omega
theorem dec_digits (n : Nat) : ∀ b, b ∈ Lib.decDigits n → 48 ≤ b.toNat ∧ b.toNat ≤ 57 := by
  induction n using Nat.strongRecOn with
  | ind n ih =>
    intro b hb
    rw [Lib.decDigits] at hb
    split at hb
    · rename_i h
      rw [List.mem_singleton] at hb
      subst hb
      have e : (UInt8.ofNat (48 + n)).toNat = 48 + n := by simp; omega
      omega
    · rename_i h
      rw [List.mem_append, List.mem_singleton] at hb
      rcases hb with hb | rfl
      · exact ih (n / 10) (by omega) b hb
      · have e : (UInt8.ofNat (48 + n % 10)).toNat = 48 + n % 10 := by simp; omega
        omega
theorem decDigits_ne (n : Nat) : Lib.decDigits n ≠ [] := by rw [Lib.decDigits]; split <;> simp
/-- what number makes of a text -/
def numL (l : List UInt8) : Option Int := match Lib.atoiAll l with | .ok v => some v | _ => none
theorem numL_dec {n : Int} (h0 : 0 ≤ n) (h1 : n ≤ 10000000) : numL (dec n) = some n := by
  obtain ⟨m, rfl⟩ := Int.eq_ofNat_of_zero_le h0
  have hl := decl_le h0 h1
  have hat : Lib.atoi (dec (m : Int)) = some (m : Int) := by
    unfold dec
    rw [Int.toNat_natCast]
    have hd := dec_digits m
    have hf := decFrom_dec m
    cases hc : Lib.decDigits m with
    | nil => exact absurd hc (decDigits_ne m)
    | cons b r =>
      rw [hc] at hd hf
      have hb := hd b (by simp)
      have b1 : (b == 45) = false := by
        rw [beq_eq_false_iff_ne]; rintro rfl; simp at hb
      have b2 : (b == 43) = false := by
        rw [beq_eq_false_iff_ne]; rintro rfl; simp at hb
      simp only [Lib.atoi, b1, b2, Bool.false_eq_true, if_false, Lib.decNat, List.isEmpty_cons, hf, Option.map_some]
  rw [numL, Lib.atoiAll_short _ (by omega), hat]
  rfl
def errForm : PV := .iface 26 (.int .i64 6)
theorem hMustH (b : Bool) (h : Heap) : HCall Tryz.prog 58 [.p (.bool b)] h (fun r h' => h' = h ∧ r = if b = true then .ret (.p (.tuple [])) else .panic errForm) := by
  refine hcall_of_wp draws (fn := Tryz.f58) (n := 5) (rs := []) (by kernel_rfl) rfl rfl rfl ok58 (Nat.le_of_ble_eq_true rfl) ?_
  simp (maxSteps := 400000) only [go_sem, simprocAttr]
  cases b
  · simp (maxSteps := 400000) only [errForm, go_sem, simprocAttr]
  · simp (maxSteps := 400000) only [go_sem, simprocAttr]
theorem WF_mustH {H : Hints} {Q : Cont} {ops : Array Oper} {rest : List Oper} {dst : Option Tmp} {A : AAct} {b : Bool} (h1 : b = true → @WO ⟨Tryz.prog, H, ops, rest, Q⟩ (A.put dst (.p (.tuple [])) A.h))
    (h2 : b = false → @WQ ⟨Q⟩ (.panic errForm) A) : @WF ⟨Tryz.prog, H, ops, rest, Q, dst⟩ A 58 [.p (.bool b)] := by
  refine WF_call (hMustH b A.h) (fun v h hr => ?_) (fun v h hr => ?_)
  · obtain ⟨rfl, hr⟩ := hr
    cases b
    · cases hr
    · cases hr; exact h1 rfl
  · obtain ⟨rfl, hr⟩ := hr
    cases b
    · cases hr; exact h2 rfl
    · cases hr
theorem cMustH : PCall Tryz.prog 58 [.bool true] (.tuple []) := by
  refine pcall_of_wp draws (fn := Tryz.f58) (n := 5) (rs := []) (by kernel_rfl) rfl rfl rfl ok58 (Nat.le_of_ble_eq_true rfl) ?_
  simp (maxSteps := 400000) only [go_sem, simprocAttr]
theorem cNumber {l : List UInt8} {n : Int} (hl : l.length ≤ 1000000) (h : numL l = some n) : PCall Tryz.prog 61 [.str (bs l)] (.int .i64 n) := by
  refine pcall_of_wp draws (fn := Tryz.f61) (n := 14) (rs := [.tmp 2]) (by kernel_rfl) rfl rfl rfl ok61 (Nat.le_of_ble_eq_true rfl) ?_
  have hp : atoiPV (bs l) = .tuple [.int .i64 n, .niliface] := by
    unfold numL at h
    rw [atoiPV, bs_data]
    cases ha : Lib.atoiAll l <;> rw [ha] at h <;> first | cases h; done | skip
    cases h; rfl
  simp (maxSteps := 400000) only [go_sem, simprocAttr]
  refine WF_pure (cAtoi (bs l) (by rw [bs_size]; omega)) rfl ?_
  simp (maxSteps := 400000) only [hp, go_sem, simprocAttr]
  refine WF_pure cMustH rfl ?_
  simp (maxSteps := 400000) only [go_sem, simprocAttr]
theorem hNumberPan {l : List UInt8} (hl : l.length ≤ 1000000) (h : numL l = none) (hp : Heap) : HCall Tryz.prog 61 [.p (.str (bs l))] hp (fun r h' => r = .panic errForm ∧ h' = hp) := by
  refine hcall_of_wp draws (fn := Tryz.f61) (n := 14) (rs := [.tmp 2]) (by kernel_rfl) rfl rfl rfl ok61 (Nat.le_of_ble_eq_true rfl) ?_
  have hx : ∃ v, atoiPV (bs l) = .tuple [.int .i64 v, .iface 173 .any] := by
    unfold numL at h
    rw [atoiPV, bs_data]
    cases ha : Lib.atoiAll l <;> rw [ha] at h <;> first | cases h; done | exact ⟨_, rfl⟩
  obtain ⟨v, hx⟩ := hx
  simp (maxSteps := 400000) only [go_sem, simprocAttr]
  refine WF_pure (cAtoi (bs l) (by rw [bs_size]; omega)) rfl ?_
  simp (maxSteps := 400000) only [hx, go_sem, simprocAttr]
  refine WF_mustH (fun h => by cases h) (fun _ => ?_)
  simp (maxSteps := 400000) only [go_sem, simprocAttr]
/-- in a region of any order -/
theorem WDR_pure {P : Program} {H : Hints} {ops : Array Oper} {rest : List Oper} {Q : Cont} {o : Oper} {hs : Heap} {A : AAct} {f : FuncId} {args : List AV} {pargs : List PV} {v : PV} (hc : PCall P f pargs v) (ha : args = pargs.map .p)
    (h : @WD ⟨P, H, ops, rest, Q⟩ hs (A.put o.dst (.p v) A.h)) : @WDR ⟨P, H, ops, rest, Q, o⟩ hs A (.call f args) := by
  subst ha
  exact .inl ⟨.p v, fun _ _ => hcall_pure hc, h⟩
theorem WDR_panic {P : Program} {H : Hints} {ops : Array Oper} {rest : List Oper} {Q : Cont} {o : Oper} {hs : Heap} {A : AAct} {f : FuncId} {args : List AV} {v : PV} (hc : HCall P f args A.h (fun r h' => r = .panic v ∧ h' = A.h))
    (h : ∀ T, @WQ ⟨Q⟩ (.panic v) { A with tmps := T }) : @WDR ⟨P, H, ops, rest, Q, o⟩ hs A (.call f args) := .inr ⟨v, hc, h⟩
end Abs
end Go.Proofs.YtdellinghbppgaaGreatDoor
