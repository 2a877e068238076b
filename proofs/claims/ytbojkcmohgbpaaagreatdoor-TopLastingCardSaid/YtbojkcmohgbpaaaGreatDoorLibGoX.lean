/-
  CONTRACTS OF Go's LIBRARY, as far as a seat's program reaches it: slices.IndexFunc, slices.ContainsFunc, slices.Clone, sort.Search.
  CONTRACTS: ranges and names, in the references and in the program.
-/
import Derived.Test.YtbojkcmohgbpaaaGreatDoorAbsInvX
import Derived.Test.YtbojkcmohgbpaaaGreatDoorSeatTy
namespace Go.Proofs.YtbojkcmohgbpaaaGreatDoor
namespace Abs
set_option linter.unusedSimpArgs false
set_option maxRecDepth 4000
theorem frzList_p (n : Nat) (h : Heap) : ∀ l : List PV, frzList (frzN n h) (l.map .p) = some l
  | [] => rfl
  | x :: r => by rw [List.map_cons, frzList, frzList_p n h r, frzN_p]
theorem pures_p : ∀ l : List PV, pures (l.map .p) = some l
  | [] => rfl
  | x :: r => by rw [List.map_cons, pures, pures_p r]
attribute [go_sem] frzList_p pures_p
def App (P : Program) (fv : PV) (xs : List PV) (y : PV) : Prop := ∃ (g : FuncId) (first cap : List PV), fv = .func (.func g) first cap ∧ PCall P g (first ++ xs ++ cap) y
def idxF {α : Type} (p : α → Bool) : List α → Nat → Int
  | [], _ => -1
  | x :: r, i => if p x = true then (i : Int) else idxF p r (i + 1)
theorem idxF_any {α : Type} (p : α → Bool) : ∀ (l : List α) (i : Nat), decide (0 ≤ idxF p l i) = l.any p
  | [], i => by simp [idxF]
  | x :: r, i => by
    unfold idxF
    rw [List.any_cons]
    cases hx : p x
    · simp only [Bool.false_eq_true, if_false, Bool.false_or]; exact idxF_any p r (i + 1)
    · simp
theorem wrap_add {a b c : Int} (h0 : 0 ≤ c) (h : c ≤ room) (e : a + b = c) : IntKind.i64.wrap (a + b) = c := by rw [e]; exact wrap_small h0 h
theorem list_at {α : Type} {l done r : List α} {x : α} (h : l = done ++ x :: r) : l[done.length]? = some x ∧ ((done.length : Int) < (l.length : Int)) := by
  subst h
  refine ⟨by simp, by simp; omega⟩
theorem cIndexFunc0 {fv : PV} (l : List Int) (p : Int → Bool) (b : Bool) (sz : Nat) (hsz : sz = 1) (hl : l.length < 1000000000) (hf : ∀ x, x ∈ l → App Tryz.prog fv [intPV x] (.bool (p x))) :
    PCall Tryz.prog 110 [.slice sz (l.map intPV) b, fv] (.int .i64 (idxF p l 0)) := by
  subst hsz
  refine pcall_of_wp draws (fn := Tryz.f110) (n := 19) (rs := [.tmp 4]) (by kernel_rfl) rfl rfl rfl ok110 (Nat.le_of_ble_eq_true rfl) ?_
  simp (maxSteps := 400000) only [go_sem, simprocAttr]
  refine W_rangeH [0, 1, 7] l hl (τ := Unit) (fun done rest _ => idxF p l 0 = idxF p rest done.length) (fun done _ => [(8, .p (.int .i64 done.length))]) () rfl ?_ ?_ ?_
  · simp (maxSteps := 400000) only [go_sem, simprocAttr] <;> simp
  · intro _ e2
    simp (maxSteps := 400000) only [go_sem, simprocAttr]
    rw [e2]; rfl
  · intro done x r _ e1 e2 hx hlt hnx
    obtain ⟨g, first, cap, rfl, hc⟩ := hf x (by rw [e1]; simp)
    simp (maxSteps := 400000) only [hlt, decide_true, hx, intPV, go_sem, simprocAttr]
    refine WF_pure hc (by simp [intPV]) ?_
    simp (maxSteps := 400000) only [go_sem, simprocAttr]
    refine WB_split (fun hb => ?_) (fun hb => ?_)
    · simp (maxSteps := 400000) only [go_sem, simprocAttr]
      rw [e2]
      simp [idxF, hb]
    · simp (maxSteps := 400000) only [go_sem, simprocAttr]
      refine WQ_next e1 () (by rw [e2]; simp [idxF, hb]) ?_
      simp (maxSteps := 400000) only [hnx, go_sem, simprocAttr]
theorem cContainsFunc0 {fv : PV} (l : List Int) (p : Int → Bool) (b : Bool) (sz : Nat) (hsz : sz = 1) (hl : l.length < 1000000000) (hf : ∀ x, x ∈ l → App Tryz.prog fv [intPV x] (.bool (p x))) :
    PCall Tryz.prog 78 [.slice sz (l.map intPV) b, fv] (.bool (l.any p)) := by
  refine pcall_of_wp draws (fn := Tryz.f78) (n := 9) (rs := [.tmp 4]) (by kernel_rfl) rfl rfl rfl ok78 (Nat.le_of_ble_eq_true rfl) ?_
  simp (maxSteps := 400000) only [go_sem, simprocAttr]
  refine WF_pure (cIndexFunc0 l p b sz hsz hl hf) rfl ?_
  simp (maxSteps := 400000) only [go_sem, simprocAttr]
  rw [idxF_any]
theorem cIndexFunc1 {fv : PV} (l : List Span) (p : Span → Bool) (b : Bool) (sz : Nat) (hsz : sz = 2) (hl : l.length < 1000000000) (hf : ∀ x, x ∈ l → App Tryz.prog fv [Span.pv x] (.bool (p x))) :
    PCall Tryz.prog 132 [.slice sz (l.map Span.pv) b, fv] (.int .i64 (idxF p l 0)) := by
  subst hsz
  refine pcall_of_wp draws (fn := Tryz.f132) (n := 19) (rs := [.tmp 4]) (by kernel_rfl) rfl rfl rfl ok132 (Nat.le_of_ble_eq_true rfl) ?_
  simp (maxSteps := 400000) only [go_sem, simprocAttr]
  refine W_rangeH [0, 1, 7] l hl (τ := Unit) (fun done rest _ => idxF p l 0 = idxF p rest done.length) (fun done _ => [(8, .p (.int .i64 done.length))]) () rfl ?_ ?_ ?_
  · simp (maxSteps := 400000) only [go_sem, simprocAttr] <;> simp
  · intro _ e2
    simp (maxSteps := 400000) only [go_sem, simprocAttr]
    rw [e2]; rfl
  · intro done x r _ e1 e2 hx hlt hnx
    obtain ⟨g, first, cap, rfl, hc⟩ := hf x (by rw [e1]; simp)
    simp (maxSteps := 400000) only [hlt, decide_true, hx, Span.pv, go_sem, simprocAttr]
    refine WF_pure hc (by simp [Span.pv]) ?_
    simp (maxSteps := 400000) only [go_sem, simprocAttr]
    refine WB_split (fun hb => ?_) (fun hb => ?_)
    · simp (maxSteps := 400000) only [go_sem, simprocAttr]
      rw [e2]
      simp [idxF, hb]
    · simp (maxSteps := 400000) only [go_sem, simprocAttr]
      refine WQ_next e1 () (by rw [e2]; simp [idxF, hb]) ?_
      simp (maxSteps := 400000) only [hnx, go_sem, simprocAttr]
theorem cContainsFunc1 {fv : PV} (l : List Span) (p : Span → Bool) (b : Bool) (sz : Nat) (hsz : sz = 2) (hl : l.length < 1000000000) (hf : ∀ x, x ∈ l → App Tryz.prog fv [Span.pv x] (.bool (p x))) :
    PCall Tryz.prog 108 [.slice sz (l.map Span.pv) b, fv] (.bool (l.any p)) := by
  refine pcall_of_wp draws (fn := Tryz.f108) (n := 9) (rs := [.tmp 4]) (by kernel_rfl) rfl rfl rfl ok108 (Nat.le_of_ble_eq_true rfl) ?_
  simp (maxSteps := 400000) only [go_sem, simprocAttr]
  refine WF_pure (cIndexFunc1 l p b sz hsz hl hf) rfl ?_
  simp (maxSteps := 400000) only [go_sem, simprocAttr]
  rw [idxF_any]
theorem cIndexFunc3 {fv : PV} (l : List HrKind) (p : HrKind → Bool) (b : Bool) (sz : Nat) (hsz : sz = 4) (hl : l.length < 1000000000) (hf : ∀ x, x ∈ l → App Tryz.prog fv [HrKind.pv x] (.bool (p x))) :
    PCall Tryz.prog 70 [.slice sz (l.map HrKind.pv) b, fv] (.int .i64 (idxF p l 0)) := by
  subst hsz
  refine pcall_of_wp draws (fn := Tryz.f70) (n := 19) (rs := [.tmp 4]) (by kernel_rfl) rfl rfl rfl ok70 (Nat.le_of_ble_eq_true rfl) ?_
  simp (maxSteps := 400000) only [go_sem, simprocAttr]
  refine W_rangeH [0, 1, 7] l hl (τ := Unit) (fun done rest _ => idxF p l 0 = idxF p rest done.length) (fun done _ => [(8, .p (.int .i64 done.length))]) () rfl ?_ ?_ ?_
  · simp (maxSteps := 400000) only [go_sem, simprocAttr] <;> simp
  · intro _ e2
    simp (maxSteps := 400000) only [go_sem, simprocAttr]
    rw [e2]; rfl
  · intro done x r _ e1 e2 hx hlt hnx
    obtain ⟨g, first, cap, rfl, hc⟩ := hf x (by rw [e1]; simp)
    simp (maxSteps := 400000) only [hlt, decide_true, hx, HrKind.pv, go_sem, simprocAttr]
    refine WF_pure hc (by simp [HrKind.pv]) ?_
    simp (maxSteps := 400000) only [go_sem, simprocAttr]
    refine WB_split (fun hb => ?_) (fun hb => ?_)
    · simp (maxSteps := 400000) only [go_sem, simprocAttr]
      rw [e2]
      simp [idxF, hb]
    · simp (maxSteps := 400000) only [go_sem, simprocAttr]
      refine WQ_next e1 () (by rw [e2]; simp [idxF, hb]) ?_
      simp (maxSteps := 400000) only [hnx, go_sem, simprocAttr]
theorem cContainsFunc3 {fv : PV} (l : List HrKind) (p : HrKind → Bool) (b : Bool) (sz : Nat) (hsz : sz = 4) (hl : l.length < 1000000000) (hf : ∀ x, x ∈ l → App Tryz.prog fv [HrKind.pv x] (.bool (p x))) :
    PCall Tryz.prog 133 [.slice sz (l.map HrKind.pv) b, fv] (.bool (l.any p)) := by
  refine pcall_of_wp draws (fn := Tryz.f133) (n := 9) (rs := [.tmp 4]) (by kernel_rfl) rfl rfl rfl ok133 (Nat.le_of_ble_eq_true rfl) ?_
  simp (maxSteps := 400000) only [go_sem, simprocAttr]
  refine WF_pure (cIndexFunc3 l p b sz hsz hl hf) rfl ?_
  simp (maxSteps := 400000) only [go_sem, simprocAttr]
  rw [idxF_any]
theorem cIndexFunc4 {fv : PV} (l : List HrRule) (p : HrRule → Bool) (b : Bool) (sz : Nat) (hsz : sz = 5) (hl : l.length < 1000000000) (hf : ∀ x, x ∈ l → App Tryz.prog fv [HrRule.pv x] (.bool (p x))) :
    PCall Tryz.prog 153 [.slice sz (l.map HrRule.pv) b, fv] (.int .i64 (idxF p l 0)) := by
  subst hsz
  refine pcall_of_wp draws (fn := Tryz.f153) (n := 19) (rs := [.tmp 4]) (by kernel_rfl) rfl rfl rfl ok153 (Nat.le_of_ble_eq_true rfl) ?_
  simp (maxSteps := 400000) only [go_sem, simprocAttr]
  refine W_rangeH [0, 1, 7] l hl (τ := Unit) (fun done rest _ => idxF p l 0 = idxF p rest done.length) (fun done _ => [(8, .p (.int .i64 done.length))]) () rfl ?_ ?_ ?_
  · simp (maxSteps := 400000) only [go_sem, simprocAttr] <;> simp
  · intro _ e2
    simp (maxSteps := 400000) only [go_sem, simprocAttr]
    rw [e2]; rfl
  · intro done x r _ e1 e2 hx hlt hnx
    obtain ⟨g, first, cap, rfl, hc⟩ := hf x (by rw [e1]; simp)
    simp (maxSteps := 400000) only [hlt, decide_true, hx, HrRule.pv, go_sem, simprocAttr]
    refine WF_pure hc (by simp [HrRule.pv]) ?_
    simp (maxSteps := 400000) only [go_sem, simprocAttr]
    refine WB_split (fun hb => ?_) (fun hb => ?_)
    · simp (maxSteps := 400000) only [go_sem, simprocAttr]
      rw [e2]
      simp [idxF, hb]
    · simp (maxSteps := 400000) only [go_sem, simprocAttr]
      refine WQ_next e1 () (by rw [e2]; simp [idxF, hb]) ?_
      simp (maxSteps := 400000) only [hnx, go_sem, simprocAttr]
theorem cContainsFunc4 {fv : PV} (l : List HrRule) (p : HrRule → Bool) (b : Bool) (sz : Nat) (hsz : sz = 5) (hl : l.length < 1000000000) (hf : ∀ x, x ∈ l → App Tryz.prog fv [HrRule.pv x] (.bool (p x))) :
    PCall Tryz.prog 135 [.slice sz (l.map HrRule.pv) b, fv] (.bool (l.any p)) := by
  refine pcall_of_wp draws (fn := Tryz.f135) (n := 9) (rs := [.tmp 4]) (by kernel_rfl) rfl rfl rfl ok135 (Nat.le_of_ble_eq_true rfl) ?_
  simp (maxSteps := 400000) only [go_sem, simprocAttr]
  refine WF_pure (cIndexFunc4 l p b sz hsz hl hf) rfl ?_
  simp (maxSteps := 400000) only [go_sem, simprocAttr]
  rw [idxF_any]
theorem cIndexFunc5 {fv : PV} (l : List Wick) (p : Wick → Bool) (b : Bool) (sz : Nat) (hsz : sz = 4) (hl : l.length < 1000000000) (hf : ∀ x, x ∈ l → App Tryz.prog fv [Wick.pv x] (.bool (p x))) :
    PCall Tryz.prog 151 [.slice sz (l.map Wick.pv) b, fv] (.int .i64 (idxF p l 0)) := by
  subst hsz
  refine pcall_of_wp draws (fn := Tryz.f151) (n := 19) (rs := [.tmp 4]) (by kernel_rfl) rfl rfl rfl ok151 (Nat.le_of_ble_eq_true rfl) ?_
  simp (maxSteps := 400000) only [go_sem, simprocAttr]
  refine W_rangeH [0, 1, 7] l hl (τ := Unit) (fun done rest _ => idxF p l 0 = idxF p rest done.length) (fun done _ => [(8, .p (.int .i64 done.length))]) () rfl ?_ ?_ ?_
  · simp (maxSteps := 400000) only [go_sem, simprocAttr] <;> simp
  · intro _ e2
    simp (maxSteps := 400000) only [go_sem, simprocAttr]
    rw [e2]; rfl
  · intro done x r _ e1 e2 hx hlt hnx
    obtain ⟨g, first, cap, rfl, hc⟩ := hf x (by rw [e1]; simp)
    simp (maxSteps := 400000) only [hlt, decide_true, hx, Wick.pv, go_sem, simprocAttr]
    refine WF_pure hc (by simp [Wick.pv]) ?_
    simp (maxSteps := 400000) only [go_sem, simprocAttr]
    refine WB_split (fun hb => ?_) (fun hb => ?_)
    · simp (maxSteps := 400000) only [go_sem, simprocAttr]
      rw [e2]
      simp [idxF, hb]
    · simp (maxSteps := 400000) only [go_sem, simprocAttr]
      refine WQ_next e1 () (by rw [e2]; simp [idxF, hb]) ?_
      simp (maxSteps := 400000) only [hnx, go_sem, simprocAttr]
theorem cContainsFunc5 {fv : PV} (l : List Wick) (p : Wick → Bool) (b : Bool) (sz : Nat) (hsz : sz = 4) (hl : l.length < 1000000000) (hf : ∀ x, x ∈ l → App Tryz.prog fv [Wick.pv x] (.bool (p x))) :
    PCall Tryz.prog 128 [.slice sz (l.map Wick.pv) b, fv] (.bool (l.any p)) := by
  refine pcall_of_wp draws (fn := Tryz.f128) (n := 9) (rs := [.tmp 4]) (by kernel_rfl) rfl rfl rfl ok128 (Nat.le_of_ble_eq_true rfl) ?_
  simp (maxSteps := 400000) only [go_sem, simprocAttr]
  refine WF_pure (cIndexFunc5 l p b sz hsz hl hf) rfl ?_
  simp (maxSteps := 400000) only [go_sem, simprocAttr]
  rw [idxF_any]
theorem cIndexFunc6 {fv : PV} (l : List Wax) (p : Wax → Bool) (b : Bool) (sz : Nat) (hsz : sz = 8) (hl : l.length < 1000000000) (hf : ∀ x, x ∈ l → App Tryz.prog fv [Wax.pv x] (.bool (p x))) :
    PCall Tryz.prog 152 [.slice sz (l.map Wax.pv) b, fv] (.int .i64 (idxF p l 0)) := by
  subst hsz
  refine pcall_of_wp draws (fn := Tryz.f152) (n := 19) (rs := [.tmp 4]) (by kernel_rfl) rfl rfl rfl ok152 (Nat.le_of_ble_eq_true rfl) ?_
  simp (maxSteps := 400000) only [go_sem, simprocAttr]
  refine W_rangeH [0, 1, 7] l hl (τ := Unit) (fun done rest _ => idxF p l 0 = idxF p rest done.length) (fun done _ => [(8, .p (.int .i64 done.length))]) () rfl ?_ ?_ ?_
  · simp (maxSteps := 400000) only [go_sem, simprocAttr] <;> simp
  · intro _ e2
    simp (maxSteps := 400000) only [go_sem, simprocAttr]
    rw [e2]; rfl
  · intro done x r _ e1 e2 hx hlt hnx
    obtain ⟨g, first, cap, rfl, hc⟩ := hf x (by rw [e1]; simp)
    simp (maxSteps := 400000) only [hlt, decide_true, hx, Wax.pv, go_sem, simprocAttr]
    refine WF_pure hc (by simp [Wax.pv]) ?_
    simp (maxSteps := 400000) only [go_sem, simprocAttr]
    refine WB_split (fun hb => ?_) (fun hb => ?_)
    · simp (maxSteps := 400000) only [go_sem, simprocAttr]
      rw [e2]
      simp [idxF, hb]
    · simp (maxSteps := 400000) only [go_sem, simprocAttr]
      refine WQ_next e1 () (by rw [e2]; simp [idxF, hb]) ?_
      simp (maxSteps := 400000) only [hnx, go_sem, simprocAttr]
theorem cContainsFunc6 {fv : PV} (l : List Wax) (p : Wax → Bool) (b : Bool) (sz : Nat) (hsz : sz = 8) (hl : l.length < 1000000000) (hf : ∀ x, x ∈ l → App Tryz.prog fv [Wax.pv x] (.bool (p x))) :
    PCall Tryz.prog 130 [.slice sz (l.map Wax.pv) b, fv] (.bool (l.any p)) := by
  refine pcall_of_wp draws (fn := Tryz.f130) (n := 9) (rs := [.tmp 4]) (by kernel_rfl) rfl rfl rfl ok130 (Nat.le_of_ble_eq_true rfl) ?_
  simp (maxSteps := 400000) only [go_sem, simprocAttr]
  refine WF_pure (cIndexFunc6 l p b sz hsz hl hf) rfl ?_
  simp (maxSteps := 400000) only [go_sem, simprocAttr]
  rw [idxF_any]
end Abs
end Go.Proofs.YtbojkcmohgbpaaaGreatDoor
namespace Go.Proofs.YtbojkcmohgbpaaaGreatDoor
namespace Abs
set_option linter.unusedSimpArgs false
set_option maxRecDepth 4000
def gIn (n lo hi : Int) : Bool := decide (lo ≤ n) && decide (n ≤ hi)
theorem cIn0 (n lo hi : Int) : PCall Tryz.prog 49 [.int .i64 n, .int .i64 lo, .int .i64 hi] (.bool (gIn n lo hi)) := by
  refine pcall_of_wp draws (fn := Tryz.f49) (n := 15) (rs := [.tmp 6]) (by kernel_rfl) rfl rfl rfl ok49 (Nat.le_of_ble_eq_true rfl) ?_
  simp (maxSteps := 400000) only [go_sem, simprocAttr]
  refine WB_split (fun hb => ?_) (fun hb => ?_) <;> simp (maxSteps := 400000) only [hb, go_sem, simprocAttr] <;> simp [gIn, hb]
theorem cIn2 (n lo hi : Int) : PCall Tryz.prog 15 [.int .i64 n, .int .i64 lo, .int .i64 hi] (.bool (gIn n lo hi)) := by
  refine pcall_of_wp draws (fn := Tryz.f15) (n := 15) (rs := [.tmp 6]) (by kernel_rfl) rfl rfl rfl ok15 (Nat.le_of_ble_eq_true rfl) ?_
  simp (maxSteps := 400000) only [go_sem, simprocAttr]
  refine WB_split (fun hb => ?_) (fun hb => ?_) <;> simp (maxSteps := 400000) only [hb, go_sem, simprocAttr] <;> simp [gIn, hb]
def gSpan (lo hi low high : Int) : Int := if gIn lo low high = true ∧ gIn hi low high = true then (if hi < lo then 2 else 0) else 7
theorem cSpan (lo hi low high : Int) : PCall Tryz.prog 16 [.agg [.int .i64 lo, .int .i64 hi], .int .i64 low, .int .i64 high] (.int .i64 (gSpan lo hi low high)) := by
  refine pcall_of_wp draws (fn := Tryz.f16) (n := 26) (rs := [.tmp 6]) (by kernel_rfl) rfl rfl rfl ok16 (Nat.le_of_ble_eq_true rfl) ?_
  simp (maxSteps := 400000) only [go_sem, simprocAttr]
  repeat' first
    | (refine WF_pure (cIn0 _ _ _) rfl ?_; simp (maxSteps := 400000) only [go_sem, simprocAttr])
    | (refine WB_split (fun hb => ?_) (fun hb => ?_) <;> simp (maxSteps := 400000) only [hb, go_sem, simprocAttr])
  all_goals simp_all [gSpan]
def badC (c last : Int) : Bool := (c != 45 && (decide (c < 97) || decide (122 < c))) || (c == 45 && last == 45)
def nameGo : List UInt8 → Int → Bool
  | [], last => last != 45
  | c :: r, last => if badC c.toNat last = true then false else nameGo r c.toNat
def nameOk (s : ByteArray) : Bool := nameGo s.data.toList 45 && decide ((s.size : Int) ≤ 20)
theorem bytes_at (s : ByteArray) (i : Nat) : s[i]? = s.data.toList[i]? := by
  by_cases h : i < s.size
  · have h' : i < s.data.toList.length := by simpa using h
    rw [getElem?_pos s i h, List.getElem?_eq_getElem h']
    simp [ByteArray.getElem_eq_getElem_data]
  · rw [getElem?_neg s i h, List.getElem?_eq_none]
    simpa using Nat.le_of_not_lt h
attribute [go_sem] bytes_at
theorem cWaxName (s : ByteArray) : PCall Tryz.prog 127 [.str s] (.bool (nameOk s)) := by
  refine pcall_of_wp draws (fn := Tryz.f127) (n := 37) (rs := [.tmp 2]) (by kernel_rfl) rfl rfl rfl ok127 (Nat.le_of_ble_eq_true rfl) ?_
  simp (maxSteps := 400000) only [go_sem, simprocAttr]
  refine W_loopA [0, 7] (σ := List UInt8 × List UInt8 × Int) (fun q => s.data.toList = q.1 ++ q.2.1 ∧ nameGo s.data.toList 45 = nameGo q.2.1 q.2.2) (fun q => q.2.1.length)
    (fun q => [(3, .p (.int .i32 q.2.2))]) (fun q => [.strIter s q.1.length]) ([], s.data.toList, 45) ⟨rfl, rfl⟩ ?_ ?_
  · simp (maxSteps := 400000) only [go_sem, simprocAttr]
  · rintro ⟨done, rest, last⟩ ⟨e1, e2⟩
    dsimp only at e1 e2
    cases rest with
    | nil =>
      have hlt : ¬ (done.length < s.size) := by
        have := congrArg List.length e1
        simp at this ⊢
        omega
      simp (maxSteps := 400000) only [hlt, go_sem, simprocAttr]
      refine WB_split (fun hb => ?_) (fun hb => ?_) <;> simp (maxSteps := 400000) only [hb, go_sem, simprocAttr]
      · simp [nameOk, e2, nameGo, hb]
      · simp [nameOk, e2, nameGo, hb]
    | cons c r =>
      obtain ⟨hx, _⟩ := list_at e1
      have hlt : done.length < s.size := by
        have := congrArg List.length e1
        simp at this ⊢
        omega
      have hc : (s[done.length]'hlt) = c := by
        have := bytes_at s done.length
        rw [hx, getElem?_pos s done.length hlt] at this
        exact Option.some.inj this
      rcases Nat.lt_or_ge c.toNat 128 with hlow | hhigh
      · have hd : Utf8.decode s done.length = (c.toNat, 1) := by
          rw [decode_ascii s done.length hlt (by rw [hc]; exact hlow), hc]
        simp (maxSteps := 400000) only [hlt, hd, go_sem, simprocAttr]
        repeat' first
          | (refine WB_split (fun hb => ?_) (fun hb => ?_) <;> simp (maxSteps := 400000) only [hb, go_sem, simprocAttr])
        all_goals first
          | (refine WQ_headA (done ++ [c], r, (c.toNat : Int)) ⟨by simp [e1], ?_⟩ (by simp) ?_
             · rw [e2]; simp_all [nameGo, badC]
             · simp (maxSteps := 400000) only [go_sem, simprocAttr]; simp)
          | (simp only [nameOk, e2]; simp_all [nameGo, badC]; done)
      · have hd := decode_high s done.length hlt (by rw [hc]; exact hhigh)
        have h1 : (((Utf8.decode s done.length).1 : Int) != 45) = true := by simp; omega
        have h2 : decide (((Utf8.decode s done.length).1 : Int) < 97) = false := by simp; omega
        have h3 : decide ((122 : Int) < ((Utf8.decode s done.length).1 : Int)) = true := by simp; omega
        simp (maxSteps := 400000) only [hlt, h1, h2, h3, go_sem, simprocAttr]
        have hbad : badC c.toNat last = true := by
          have g1 : ((c.toNat : Int) != 45) = true := by simp; omega
          have g3 : decide ((122 : Int) < (c.toNat : Int)) = true := by simp; omega
          simp [badC, g1, g3]
        simp [nameOk, e2, nameGo, hbad]
theorem badC_in (c last : Int) : badC c last = ((c != 45 && !gIn c 97 122) || (c == 45 && last == 45)) := by
  have : (!gIn c 97 122) = (decide (c < 97) || decide (122 < c)) := by
    unfold gIn
    rw [Bool.not_and]
    congr 1
    · rw [← decide_not]; congr 1; simp
    · rw [← decide_not]; congr 1; simp
  rw [badC, this]
def lastI (l : List UInt8) : Int := match l.getLast? with | some c => (c.toNat : Int) | none => 45
theorem lastI_snoc (l : List UInt8) (c : UInt8) : lastI (l ++ [c]) = (c.toNat : Int) := by simp [lastI]
theorem wrap_u8 (c : UInt8) : IntKind.i64.wrap (c.toNat : Int) = (c.toNat : Int) := wrap_small (by omega) (by have := c.toNat_lt; simp [room]; omega)
theorem cRefName (s : ByteArray) : PCall Tryz.prog 81 [.str s] (.bool (nameOk s)) := by
  refine pcall_of_wp draws (fn := Tryz.f81) (n := 56) (rs := [.tmp 2]) (by kernel_rfl) rfl rfl rfl ok81 (Nat.le_of_ble_eq_true rfl) ?_
  simp (maxSteps := 400000) only [go_sem, simprocAttr]
  refine WF_pure (cIn0 _ _ _) rfl ?_
  cases hr : gIn s.size 1 20
  · simp (maxSteps := 400000) only [hr, go_sem, simprocAttr]
    have : nameOk s = false := by
      unfold nameOk
      cases hb : s.data.toList with
      | nil => simp [nameGo]
      | cons b bs =>
        have : 1 ≤ s.size := by have := congrArg List.length hb; simp at this; omega
        have h2 : ¬ ((s.size : Int) ≤ 20) := by
          intro h
          have h1 : (1 : Int) ≤ (s.size : Int) := by omega
          simp [gIn, h, h1] at hr
        simp [h2]
    rw [this]
  · have hr' : (1 : Int) ≤ (s.size : Int) ∧ (s.size : Int) ≤ 20 := by simpa [gIn] using hr
    have hlen : s.data.toList.length = s.size := by simp
    obtain ⟨b0, h0⟩ : ∃ b, s.data.toList[0]? = some b := ⟨_, List.getElem?_eq_getElem (by omega)⟩
    obtain ⟨bl, hl⟩ : ∃ b, s.data.toList[s.size - 1]? = some b := ⟨_, List.getElem?_eq_getElem (by omega)⟩
    have hgl : s.data.toList.getLast? = some bl := by rw [List.getLast?_eq_getElem?, hlen]; exact hl
    have hw : IntKind.i64.wrap ((s.size : Int) - 1) = ((s.size - 1 : Nat) : Int) := by
      rw [wrap_small (by omega) (by simp [room]; omega)]; omega
    have hlt1 : (((s.size - 1 : Nat) : Int)) < (s.size : Int) := by omega
    have hsz : nameOk s = nameGo s.data.toList 45 := by unfold nameOk; simp [hr'.2]
    rw [hsz]
    simp (maxSteps := 400000) only [hr, bytes_at, h0, hw, hl, go_sem, simprocAttr]
    -- the first byte, the last byte
    cases hb0 : ((b0.toNat : Int) == 45)
    · simp (maxSteps := 400000) only [hb0, bytes_at, hw, hl, go_sem, simprocAttr]
      cases hbl : ((bl.toNat : Int) == 45)
      · simp (maxSteps := 400000) only [hbl, go_sem, simprocAttr]
        refine W_loopA [0] (σ := List UInt8 × List UInt8) (fun q => s.data.toList = q.1 ++ q.2 ∧ nameGo s.data.toList 45 = nameGo q.2 (lastI q.1)) (fun q => q.2.length)
          (fun q => [(3, .p (.int .i64 q.1.length))]) (fun _ => []) ([], s.data.toList) ⟨rfl, rfl⟩ ?_ ?_
        · simp (maxSteps := 400000) only [go_sem, simprocAttr] <;> simp
        · rintro ⟨done, rest⟩ ⟨e1, e2⟩
          dsimp only at e1 e2
          cases rest with
          | nil =>
            have hlt : ¬ ((done.length : Int) < (s.size : Int)) := by
              have := congrArg List.length e1
              simp at this
              omega
            simp (maxSteps := 400000) only [hlt, decide_false, go_sem, simprocAttr]
            rw [e2]
            have : lastI done = (bl.toNat : Int) := by
              rw [e1] at hgl
              simp at hgl
              simp [lastI, hgl]
            simp [nameGo, this, bne, hbl]
          | cons c r =>
            obtain ⟨hx, _⟩ := list_at e1
            have hlt : (done.length : Int) < (s.size : Int) := by
              have := congrArg List.length e1
              simp at this
              omega
            have hnx : IntKind.i64.wrap ((done.length : Int) + 1) = (((done ++ [c]).length : Nat) : Int) := wrap_add (by omega) (by simp [room]; omega) (by simp)
            simp (maxSteps := 400000) only [hlt, decide_true, bytes_at, hx, go_sem, simprocAttr]
            have back : badC c.toNat (lastI done) = false → nameGo s.data.toList 45 = nameGo r (lastI (done ++ [c])) := fun h => by
              rw [e2, nameGo, h, lastI_snoc]; rfl
            have gone : badC c.toNat (lastI done) = true → nameGo s.data.toList 45 = false := fun h => by
              rw [e2, nameGo, if_pos h]
            rw [badC_in] at back gone
            have next : badC c.toNat (lastI done) = false → (s.data.toList = (done ++ [c]) ++ r ∧ nameGo s.data.toList 45 = nameGo r (lastI (done ++ [c]))) := fun h => ⟨by simp [e1], by rw [badC_in] at h; exact back h⟩
            rw [badC_in] at next
            cases hc : ((c.toNat : Int) == 45)
            · have hc' : ((c.toNat : Int) != 45) = true := by simp [bne, hc]
              simp (maxSteps := 400000) only [hc', hx, wrap_u8, go_sem, simprocAttr]
              refine WF_pure (cIn0 _ _ _) rfl ?_
              cases hg : gIn c.toNat 97 122
              · simp (maxSteps := 400000) only [hg, go_sem, simprocAttr]
                rw [gone (by simp [hc', hg])]
              · simp (maxSteps := 400000) only [hg, hx, hc, go_sem, simprocAttr]
                refine WB_split (fun hp => ?_) (fun hp => ?_) <;> simp (maxSteps := 400000) only [hp, go_sem, simprocAttr]
                · simp (maxSteps := 400000) only [hx, hc, go_sem, simprocAttr]
                  refine WQ_headA (done ++ [c], r) (next (by simp [hc, hg])) (by simp) ?_
                  simp (maxSteps := 400000) only [hnx, go_sem, simprocAttr]
                · refine WQ_headA (done ++ [c], r) (next (by simp [hc, hg])) (by simp) ?_
                  simp (maxSteps := 400000) only [hnx, go_sem, simprocAttr]
            · have hc' : ((c.toNat : Int) != 45) = false := by simp [bne, hc]
              simp (maxSteps := 400000) only [hc', hx, hc, go_sem, simprocAttr]
              rcases List.eq_nil_or_concat done with rfl | ⟨pre, d, hpd⟩
              · exfalso
                rw [e1] at h0
                simp at h0
                subst h0
                rw [hc] at hb0
                cases hb0
              · rw [List.concat_eq_append] at hpd
                subst hpd
                have hp : decide ((0 : Int) < (((pre ++ [d]).length : Nat) : Int)) = true := by simp <;> omega
                have hw1 : IntKind.i64.wrap ((((pre ++ [d]).length : Nat) : Int) - 1) = ((pre.length : Nat) : Int) := by
                  rw [wrap_small (by simp <;> omega) (by simp [room] at hlt ⊢; omega)]; simp
                have hd : s.data.toList[pre.length]? = some d := by rw [e1]; simp
                simp (maxSteps := 400000) only [hp, hx, hc, hw1, hd, decide_true, go_sem, simprocAttr]
                rw [lastI_snoc] at back gone next
                cases hd45 : ((d.toNat : Int) == 45)
                · simp (maxSteps := 400000) only [hd45, go_sem, simprocAttr]
                  refine WQ_headA (pre ++ [d] ++ [c], r) (next (by simp [hc, bne, hd45])) (by simp) ?_
                  simp (maxSteps := 400000) only [hnx, go_sem, simprocAttr]
                · simp (maxSteps := 400000) only [hd45, go_sem, simprocAttr]
                  rw [gone (by simp [hc, hd45])]
      · simp (maxSteps := 400000) only [hbl, go_sem, simprocAttr]
        have : ∀ (l : List UInt8) (p : Int), l.getLast? = some bl → nameGo l p = false := by
          intro l
          induction l with
          | nil => intro p h; cases h
          | cons c r ih =>
            intro p h
            unfold nameGo
            split
            · rfl
            · cases r with
              | nil =>
                simp at h
                subst h
                simp [nameGo, bne, hbl]
              | cons c' r' => exact ih _ (by simpa using h)
        rw [this _ _ hgl]
    · simp (maxSteps := 400000) only [hb0, go_sem, simprocAttr]
      have : nameGo s.data.toList 45 = false := by
        cases hbs : s.data.toList with
        | nil => rw [hbs] at h0; cases h0
        | cons c r =>
          rw [hbs] at h0
          simp at h0
          subst h0
          unfold nameGo
          rw [if_pos]
          simp [badC, hb0]
      rw [this]
def firstErr {α : Type} (f : List ByteArray → α → Int) (nm : α → ByteArray) : List α → List ByteArray → Option (Int × Int)
  | [], _ => none
  | x :: r, before => if f before x = 0 then firstErr f nm r (before ++ [nm x]) else some ((before.length : Int), f before x)
def triple (t : Int × Int × Int) : PV := .tuple [.int .i64 t.1, .int .i64 t.2.1, .int .i64 t.2.2]
def namedErr (before : List ByteArray) (s : ByteArray) : Int := if nameOk s = true then (if before.any (fun t => t == s) = true then 5 else 0) else 6
theorem cRefNamed (s : ByteArray) (l : List ByteArray) (b : Bool) (hl : l.length < 1000000000) : PCall Tryz.prog 48 [.str s, .slice 1 (l.map .str) b] (.int .i64 (namedErr l s)) := by
  refine pcall_of_wp draws (fn := Tryz.f48) (n := 21) (rs := [.tmp 4]) (by kernel_rfl) rfl rfl rfl ok48 (Nat.le_of_ble_eq_true rfl) ?_
  simp (maxSteps := 400000) only [go_sem, simprocAttr]
  refine WF_pure (cRefName s) rfl ?_
  simp (maxSteps := 400000) only [go_sem, simprocAttr]
  cases hn : nameOk s
  · simp (maxSteps := 400000) only [go_sem, simprocAttr]
    simp [namedErr, hn]
  · simp (maxSteps := 400000) only [go_sem, simprocAttr]
    refine W_loopH [0, 1] (σ := List ByteArray × List ByteArray) (fun q => l = q.1 ++ q.2 ∧ namedErr l s = (if q.2.any (fun t => t == s) = true then 5 else 0)) (fun q => q.2.length) (fun q => [(5, .p (.int .i64 q.1.length))]) ([], l) ⟨rfl, by simp [namedErr, hn]⟩ ?_ ?_
    · simp (maxSteps := 400000) only [go_sem, simprocAttr] <;> simp
    · rintro ⟨done, rest⟩ ⟨e1, e2⟩
      dsimp only at e1 e2
      cases rest with
      | nil =>
        have hlt : ¬ ((done.length : Int) < (l.length : Int)) := by rw [e1]; simp
        simp (maxSteps := 400000) only [hlt, decide_false, go_sem, simprocAttr]
        rw [e2]; rfl
      | cons x r =>
        obtain ⟨hx, hlt⟩ := list_at e1
        have hnx : IntKind.i64.wrap ((done.length : Int) + 1) = (((done ++ [x]).length : Nat) : Int) := wrap_add (by omega) (by simp [room]; omega) (by simp)
        simp (maxSteps := 400000) only [hlt, decide_true, hx, go_sem, simprocAttr]
        rw [List.any_cons] at e2
        cases hb : (x == s)
        · simp (maxSteps := 400000) only [go_sem, simprocAttr]
          refine WQ_headA (done ++ [x], r) ⟨by simp [e1], by rw [e2, hb]; rfl⟩ (by simp) ?_
          simp (maxSteps := 400000) only [hnx, go_sem, simprocAttr]
        · simp (maxSteps := 400000) only [go_sem, simprocAttr]
          rw [e2, hb]; rfl
theorem cRefNamedI (s : ByteArray) (l : List ByteArray) (b : Bool) (xs : List PV) (hx : xs = l.map .str) (hl : l.length < 1000000000) : PCall Tryz.prog 48 [.str s, .slice 1 xs b] (.int .i64 (namedErr l s)) := by
  subst hx; exact cRefNamed s l b hl
end Abs
end Go.Proofs.YtbojkcmohgbpaaaGreatDoor
