/-
  CONTRACTS: ranges and names, in the references and in the program.
-/
import Derived.Test.YthekmbikolpmlaaLibGo
namespace Go.Proofs.Ythekmbikolpmlaa
namespace Abs
set_option linter.unusedSimpArgs false
set_option maxRecDepth 4000

def gIn (n lo hi : Int) : Bool := decide (lo ≤ n) && decide (n ≤ hi)
theorem cIn0 (n lo hi : Int) : PCall Try.prog 98 [.int .i64 n, .int .i64 lo, .int .i64 hi] (.bool (gIn n lo hi)) := by
  refine pcall_of_wp draws (fn := Try.f98) (n := 15) (rs := [.tmp 6]) (by kernel_rfl) rfl rfl rfl ok98 (Nat.le_of_ble_eq_true rfl) ?_
  simp (config := { maxSteps := 400000 }) only [go_sem, ↓reduceIte, reduceCtorEq, Nat.reduceEqDiff, Nat.reduceAdd, Nat.reduceLT, Nat.reduceLeDiff, Nat.reduceSub, Int.reduceToNat, Int.reduceLE, Int.reduceLT, Int.reduceNeg, Int.reduceBEq, Int.reduceBNe, Nat.reduceMul, Int.reduceAdd, Int.reduceMul, Int.reduceSub, Int.reduceEq, Int.reduceNe]
  refine WB_split (fun hb => ?_) (fun hb => ?_) <;> simp (config := { maxSteps := 400000 }) only [hb, go_sem, ↓reduceIte, reduceCtorEq, Nat.reduceEqDiff, Nat.reduceAdd, Nat.reduceLT, Nat.reduceLeDiff, Nat.reduceSub, Int.reduceToNat, Int.reduceLE, Int.reduceLT, Int.reduceNeg, Int.reduceBEq, Int.reduceBNe, Nat.reduceMul, Int.reduceAdd, Int.reduceMul, Int.reduceSub, Int.reduceEq, Int.reduceNe] <;> simp [gIn, hb]
theorem cIn1 (n lo hi : Int) : PCall Try.prog 53 [.int .i64 n, .int .i64 lo, .int .i64 hi] (.bool (gIn n lo hi)) := by
  refine pcall_of_wp draws (fn := Try.f53) (n := 15) (rs := [.tmp 6]) (by kernel_rfl) rfl rfl rfl ok53 (Nat.le_of_ble_eq_true rfl) ?_
  simp (config := { maxSteps := 400000 }) only [go_sem, ↓reduceIte, reduceCtorEq, Nat.reduceEqDiff, Nat.reduceAdd, Nat.reduceLT, Nat.reduceLeDiff, Nat.reduceSub, Int.reduceToNat, Int.reduceLE, Int.reduceLT, Int.reduceNeg, Int.reduceBEq, Int.reduceBNe, Nat.reduceMul, Int.reduceAdd, Int.reduceMul, Int.reduceSub, Int.reduceEq, Int.reduceNe]
  refine WB_split (fun hb => ?_) (fun hb => ?_) <;> simp (config := { maxSteps := 400000 }) only [hb, go_sem, ↓reduceIte, reduceCtorEq, Nat.reduceEqDiff, Nat.reduceAdd, Nat.reduceLT, Nat.reduceLeDiff, Nat.reduceSub, Int.reduceToNat, Int.reduceLE, Int.reduceLT, Int.reduceNeg, Int.reduceBEq, Int.reduceBNe, Nat.reduceMul, Int.reduceAdd, Int.reduceMul, Int.reduceSub, Int.reduceEq, Int.reduceNe] <;> simp [gIn, hb]
def gSpan (lo hi low high : Int) : Int := if gIn lo low high = true ∧ gIn hi low high = true then (if hi < lo then 2 else 0) else 7
theorem cSpan (lo hi low high : Int) : PCall Try.prog 80 [.agg [.int .i64 lo, .int .i64 hi], .int .i64 low, .int .i64 high] (.int .i64 (gSpan lo hi low high)) := by
  refine pcall_of_wp draws (fn := Try.f80) (n := 26) (rs := [.tmp 6]) (by kernel_rfl) rfl rfl rfl ok80 (Nat.le_of_ble_eq_true rfl) ?_
  simp (config := { maxSteps := 400000 }) only [go_sem, ↓reduceIte, reduceCtorEq, Nat.reduceEqDiff, Nat.reduceAdd, Nat.reduceLT, Nat.reduceLeDiff, Nat.reduceSub, Int.reduceToNat, Int.reduceLE, Int.reduceLT, Int.reduceNeg, Int.reduceBEq, Int.reduceBNe, Nat.reduceMul, Int.reduceAdd, Int.reduceMul, Int.reduceSub, Int.reduceEq, Int.reduceNe]
  repeat' first
    | (refine WF_pure (cIn0 _ _ _) rfl ?_; simp (config := { maxSteps := 400000 }) only [go_sem, ↓reduceIte, reduceCtorEq, Nat.reduceEqDiff, Nat.reduceAdd, Nat.reduceLT, Nat.reduceLeDiff, Nat.reduceSub, Int.reduceToNat, Int.reduceLE, Int.reduceLT, Int.reduceNeg, Int.reduceBEq, Int.reduceBNe, Nat.reduceMul, Int.reduceAdd, Int.reduceMul, Int.reduceSub, Int.reduceEq, Int.reduceNe])
    | (refine WB_split (fun hb => ?_) (fun hb => ?_) <;> simp (config := { maxSteps := 400000 }) only [hb, go_sem, ↓reduceIte, reduceCtorEq, Nat.reduceEqDiff, Nat.reduceAdd, Nat.reduceLT, Nat.reduceLeDiff, Nat.reduceSub, Int.reduceToNat, Int.reduceLE, Int.reduceLT, Int.reduceNeg, Int.reduceBEq, Int.reduceBNe, Nat.reduceMul, Int.reduceAdd, Int.reduceMul, Int.reduceSub, Int.reduceEq, Int.reduceNe])
  all_goals simp_all [gSpan]

/-! names -/
def badC (c last : Int) : Bool := (c != 45 && (decide (c < 97) || decide (122 < c))) || (c == 45 && last == 45)
def nameGo : List UInt8 → Int → Bool
  | [], last => last != 45
  | c :: r, last => if badC c.toNat last = true then false else nameGo r c.toNat
def nameOk (s : ByteArray) : Bool := nameGo s.data.toList 45 && decide ((s.size : Int) ≤ 20)

theorem bytes_at (s : ByteArray) (i : Nat) : s[i]? = s.data.toList[i]? := by
  by_cases h : i < s.size
  · have h' : i < s.data.toList.length := by simpa using h
    rw [getElem?_pos s i h, List.getElem?_eq_getElem h']
    simp [ByteArray.getElem_eq_getElem_data]
  · rw [getElem?_neg s i h, List.getElem?_eq_none]
    simpa using Nat.le_of_not_lt h
attribute [go_sem] bytes_at
theorem size_bytes (s : ByteArray) : (s.size : Int) = (s.data.toList.length : Int) := by simp

theorem cWaxName (s : ByteArray) : PCall Try.prog 49 [.str s] (.bool (nameOk s)) := by
  refine pcall_of_wp draws (fn := Try.f49) (n := 37) (rs := [.tmp 2]) (by kernel_rfl) rfl rfl rfl ok49 (Nat.le_of_ble_eq_true rfl) ?_
  simp (config := { maxSteps := 400000 }) only [go_sem, ↓reduceIte, reduceCtorEq, Nat.reduceEqDiff, Nat.reduceAdd, Nat.reduceLT, Nat.reduceLeDiff, Nat.reduceSub, Int.reduceToNat, Int.reduceLE, Int.reduceLT, Int.reduceNeg, Int.reduceBEq, Int.reduceBNe, Nat.reduceMul, Int.reduceAdd, Int.reduceMul, Int.reduceSub, Int.reduceEq, Int.reduceNe]
  refine W_loopA [0, 7] (σ := List UInt8 × List UInt8 × Int) (fun q => s.data.toList = q.1 ++ q.2.1 ∧ nameGo s.data.toList 45 = nameGo q.2.1 q.2.2) (fun q => q.2.1.length)
    (fun q => [(3, .p (.int .i32 q.2.2))]) (fun q => [.strIter s q.1.length]) ([], s.data.toList, 45) ⟨rfl, rfl⟩ ?_ ?_
  · simp (config := { maxSteps := 400000 }) only [go_sem, ↓reduceIte, reduceCtorEq, Nat.reduceEqDiff, Nat.reduceAdd, Nat.reduceLT, Nat.reduceLeDiff, Nat.reduceSub, Int.reduceToNat, Int.reduceLE, Int.reduceLT, Int.reduceNeg, Int.reduceBEq, Int.reduceBNe, Nat.reduceMul, Int.reduceAdd, Int.reduceMul, Int.reduceSub, Int.reduceEq, Int.reduceNe]
  · rintro ⟨done, rest, last⟩ ⟨e1, e2⟩
    dsimp only at e1 e2
    cases rest with
    | nil =>
      have hlt : ¬ (done.length < s.size) := by
        have := congrArg List.length e1
        simp at this ⊢
        omega
      simp (config := { maxSteps := 400000 }) only [hlt, go_sem, ↓reduceIte, reduceCtorEq, Nat.reduceEqDiff, Nat.reduceAdd, Nat.reduceLT, Nat.reduceLeDiff, Nat.reduceSub, Int.reduceToNat, Int.reduceLE, Int.reduceLT, Int.reduceNeg, Int.reduceBEq, Int.reduceBNe, Nat.reduceMul, Int.reduceAdd, Int.reduceMul, Int.reduceSub, Int.reduceEq, Int.reduceNe]
      refine WB_split (fun hb => ?_) (fun hb => ?_) <;> simp (config := { maxSteps := 400000 }) only [hb, go_sem, ↓reduceIte, reduceCtorEq, Nat.reduceEqDiff, Nat.reduceAdd, Nat.reduceLT, Nat.reduceLeDiff, Nat.reduceSub, Int.reduceToNat, Int.reduceLE, Int.reduceLT, Int.reduceNeg, Int.reduceBEq, Int.reduceBNe, Nat.reduceMul, Int.reduceAdd, Int.reduceMul, Int.reduceSub, Int.reduceEq, Int.reduceNe]
      · simp [nameOk, e2, nameGo, hb]
      · simp [nameOk, e2, nameGo, hb]
    | cons c r =>
      obtain ⟨hx, _⟩ := list_at e1
      have hlt : done.length < s.size := by
        have := congrArg List.length e1
        simp at this ⊢
        omega
      have hc : (s[done.length]'hlt) = c := by
        have := bytes_at s done.length
        rw [hx, getElem?_pos s done.length hlt] at this
        exact Option.some.inj this
      rcases Nat.lt_or_ge c.toNat 128 with hlow | hhigh
      · have hd : Utf8.decode s done.length = (c.toNat, 1) := by
          rw [decode_ascii s done.length hlt (by rw [hc]; exact hlow), hc]
        simp (config := { maxSteps := 400000 }) only [hlt, hd, go_sem, ↓reduceIte, reduceCtorEq, Nat.reduceEqDiff, Nat.reduceAdd, Nat.reduceLT, Nat.reduceLeDiff, Nat.reduceSub, Int.reduceToNat, Int.reduceLE, Int.reduceLT, Int.reduceNeg, Int.reduceBEq, Int.reduceBNe, Nat.reduceMul, Int.reduceAdd, Int.reduceMul, Int.reduceSub, Int.reduceEq, Int.reduceNe]
        repeat' first
          | (refine WB_split (fun hb => ?_) (fun hb => ?_) <;> simp (config := { maxSteps := 400000 }) only [hb, go_sem, ↓reduceIte, reduceCtorEq, Nat.reduceEqDiff, Nat.reduceAdd, Nat.reduceLT, Nat.reduceLeDiff, Nat.reduceSub, Int.reduceToNat, Int.reduceLE, Int.reduceLT, Int.reduceNeg, Int.reduceBEq, Int.reduceBNe, Nat.reduceMul, Int.reduceAdd, Int.reduceMul, Int.reduceSub, Int.reduceEq, Int.reduceNe])
        all_goals first
          | (refine WQ_headA (done ++ [c], r, (c.toNat : Int)) ⟨by simp [e1], ?_⟩ (by simp) ?_
             · rw [e2]; simp_all [nameGo, badC]
             · simp (config := { maxSteps := 400000 }) only [go_sem, ↓reduceIte, reduceCtorEq, Nat.reduceEqDiff, Nat.reduceAdd, Nat.reduceLT, Nat.reduceLeDiff, Nat.reduceSub, Int.reduceToNat, Int.reduceLE, Int.reduceLT, Int.reduceNeg, Int.reduceBEq, Int.reduceBNe, Nat.reduceMul, Int.reduceAdd, Int.reduceMul, Int.reduceSub, Int.reduceEq, Int.reduceNe]; simp)
          | (simp only [nameOk, e2]; simp_all [nameGo, badC]; done)
      · have hd := decode_high s done.length hlt (by rw [hc]; exact hhigh)
        have h1 : (((Utf8.decode s done.length).1 : Int) != 45) = true := by simp; omega
        have h2 : decide (((Utf8.decode s done.length).1 : Int) < 97) = false := by simp; omega
        have h3 : decide ((122 : Int) < ((Utf8.decode s done.length).1 : Int)) = true := by simp; omega
        simp (config := { maxSteps := 400000 }) only [hlt, h1, h2, h3, go_sem, ↓reduceIte, reduceCtorEq, Nat.reduceEqDiff, Nat.reduceAdd, Nat.reduceLT, Nat.reduceLeDiff, Nat.reduceSub, Int.reduceToNat, Int.reduceLE, Int.reduceLT, Int.reduceNeg, Int.reduceBEq, Int.reduceBNe, Nat.reduceMul, Int.reduceAdd, Int.reduceMul, Int.reduceSub, Int.reduceEq, Int.reduceNe]
        have hbad : badC c.toNat last = true := by
          have g1 : ((c.toNat : Int) != 45) = true := by simp; omega
          have g3 : decide ((122 : Int) < (c.toNat : Int)) = true := by simp; omega
          simp [badC, g1, g3]
        simp [nameOk, e2, nameGo, hbad]

theorem badC_in (c last : Int) : badC c last = ((c != 45 && !gIn c 97 122) || (c == 45 && last == 45)) := by
  have : (!gIn c 97 122) = (decide (c < 97) || decide (122 < c)) := by
    unfold gIn
    rw [Bool.not_and]
    congr 1
    · rw [← decide_not]; congr 1; simp
    · rw [← decide_not]; congr 1; simp
  rw [badC, this]
def lastI (l : List UInt8) : Int := match l.getLast? with | some c => (c.toNat : Int) | none => 45
theorem lastI_snoc (l : List UInt8) (c : UInt8) : lastI (l ++ [c]) = (c.toNat : Int) := by simp [lastI]
theorem wrap_u8 (c : UInt8) : IntKind.i64.wrap (c.toNat : Int) = (c.toNat : Int) := wrap_small (by omega) (by have := c.toNat_lt; simp [room]; omega)

theorem cRefName (s : ByteArray) : PCall Try.prog 84 [.str s] (.bool (nameOk s)) := by
  refine pcall_of_wp draws (fn := Try.f84) (n := 56) (rs := [.tmp 2]) (by kernel_rfl) rfl rfl rfl ok84 (Nat.le_of_ble_eq_true rfl) ?_
  simp (config := { maxSteps := 400000 }) only [go_sem, ↓reduceIte, reduceCtorEq, Nat.reduceEqDiff, Nat.reduceAdd, Nat.reduceLT, Nat.reduceLeDiff, Nat.reduceSub, Int.reduceToNat, Int.reduceLE, Int.reduceLT, Int.reduceNeg, Int.reduceBEq, Int.reduceBNe, Nat.reduceMul, Int.reduceAdd, Int.reduceMul, Int.reduceSub, Int.reduceEq, Int.reduceNe]
  refine WF_pure (cIn0 _ _ _) rfl ?_
  cases hr : gIn s.size 1 20
  · simp (config := { maxSteps := 400000 }) only [hr, go_sem, ↓reduceIte, reduceCtorEq, Nat.reduceEqDiff, Nat.reduceAdd, Nat.reduceLT, Nat.reduceLeDiff, Nat.reduceSub, Int.reduceToNat, Int.reduceLE, Int.reduceLT, Int.reduceNeg, Int.reduceBEq, Int.reduceBNe, Nat.reduceMul, Int.reduceAdd, Int.reduceMul, Int.reduceSub, Int.reduceEq, Int.reduceNe]
    have : nameOk s = false := by
      unfold nameOk
      cases hb : s.data.toList with
      | nil => simp [nameGo]
      | cons b bs =>
        have : 1 ≤ s.size := by have := congrArg List.length hb; simp at this; omega
        have h2 : ¬ ((s.size : Int) ≤ 20) := by
          intro h
          have h1 : (1 : Int) ≤ (s.size : Int) := by omega
          simp [gIn, h, h1] at hr
        simp [h2]
    rw [this]
  · have hr' : (1 : Int) ≤ (s.size : Int) ∧ (s.size : Int) ≤ 20 := by simpa [gIn] using hr
    have hlen : s.data.toList.length = s.size := by simp
    obtain ⟨b0, h0⟩ : ∃ b, s.data.toList[0]? = some b := ⟨_, List.getElem?_eq_getElem (by omega)⟩
    obtain ⟨bl, hl⟩ : ∃ b, s.data.toList[s.size - 1]? = some b := ⟨_, List.getElem?_eq_getElem (by omega)⟩
    have hgl : s.data.toList.getLast? = some bl := by rw [List.getLast?_eq_getElem?, hlen]; exact hl
    have hw : IntKind.i64.wrap ((s.size : Int) - 1) = ((s.size - 1 : Nat) : Int) := by
      rw [wrap_small (by omega) (by simp [room]; omega)]; omega
    have hlt1 : (((s.size - 1 : Nat) : Int)) < (s.size : Int) := by omega
    have hsz : nameOk s = nameGo s.data.toList 45 := by unfold nameOk; simp [hr'.2]
    rw [hsz]
    simp (config := { maxSteps := 400000 }) only [hr, bytes_at, h0, hw, hl, go_sem, ↓reduceIte, reduceCtorEq, Nat.reduceEqDiff, Nat.reduceAdd, Nat.reduceLT, Nat.reduceLeDiff, Nat.reduceSub, Int.reduceToNat, Int.reduceLE, Int.reduceLT, Int.reduceNeg, Int.reduceBEq, Int.reduceBNe, Nat.reduceMul, Int.reduceAdd, Int.reduceMul, Int.reduceSub, Int.reduceEq, Int.reduceNe]
    -- the first byte, the last byte
    cases hb0 : ((b0.toNat : Int) == 45)
    · simp (config := { maxSteps := 400000 }) only [hb0, bytes_at, hw, hl, go_sem, ↓reduceIte, reduceCtorEq, Nat.reduceEqDiff, Nat.reduceAdd, Nat.reduceLT, Nat.reduceLeDiff, Nat.reduceSub, Int.reduceToNat, Int.reduceLE, Int.reduceLT, Int.reduceNeg, Int.reduceBEq, Int.reduceBNe, Nat.reduceMul, Int.reduceAdd, Int.reduceMul, Int.reduceSub, Int.reduceEq, Int.reduceNe]
      cases hbl : ((bl.toNat : Int) == 45)
      · simp (config := { maxSteps := 400000 }) only [hbl, go_sem, ↓reduceIte, reduceCtorEq, Nat.reduceEqDiff, Nat.reduceAdd, Nat.reduceLT, Nat.reduceLeDiff, Nat.reduceSub, Int.reduceToNat, Int.reduceLE, Int.reduceLT, Int.reduceNeg, Int.reduceBEq, Int.reduceBNe, Nat.reduceMul, Int.reduceAdd, Int.reduceMul, Int.reduceSub, Int.reduceEq, Int.reduceNe]
        refine W_loopA [0] (σ := List UInt8 × List UInt8) (fun q => s.data.toList = q.1 ++ q.2 ∧ nameGo s.data.toList 45 = nameGo q.2 (lastI q.1)) (fun q => q.2.length)
          (fun q => [(3, .p (.int .i64 q.1.length))]) (fun _ => []) ([], s.data.toList) ⟨rfl, rfl⟩ ?_ ?_
        · simp (config := { maxSteps := 400000 }) only [go_sem, ↓reduceIte, reduceCtorEq, Nat.reduceEqDiff, Nat.reduceAdd, Nat.reduceLT, Nat.reduceLeDiff, Nat.reduceSub, Int.reduceToNat, Int.reduceLE, Int.reduceLT, Int.reduceNeg, Int.reduceBEq, Int.reduceBNe, Nat.reduceMul, Int.reduceAdd, Int.reduceMul, Int.reduceSub, Int.reduceEq, Int.reduceNe] <;> simp
        · rintro ⟨done, rest⟩ ⟨e1, e2⟩
          dsimp only at e1 e2
          cases rest with
          | nil =>
            have hlt : ¬ ((done.length : Int) < (s.size : Int)) := by
              have := congrArg List.length e1
              simp at this
              omega
            simp (config := { maxSteps := 400000 }) only [hlt, decide_false, go_sem, ↓reduceIte, reduceCtorEq, Nat.reduceEqDiff, Nat.reduceAdd, Nat.reduceLT, Nat.reduceLeDiff, Nat.reduceSub, Int.reduceToNat, Int.reduceLE, Int.reduceLT, Int.reduceNeg, Int.reduceBEq, Int.reduceBNe, Nat.reduceMul, Int.reduceAdd, Int.reduceMul, Int.reduceSub, Int.reduceEq, Int.reduceNe]
            rw [e2]
            have : lastI done = (bl.toNat : Int) := by
              rw [e1] at hgl
              simp at hgl
              simp [lastI, hgl]
            simp [nameGo, this, bne, hbl]
          | cons c r =>
            obtain ⟨hx, _⟩ := list_at e1
            have hlt : (done.length : Int) < (s.size : Int) := by
              have := congrArg List.length e1
              simp at this
              omega
            have hnx : IntKind.i64.wrap ((done.length : Int) + 1) = (((done ++ [c]).length : Nat) : Int) := wrap_add (by omega) (by simp [room]; omega) (by simp)
            simp (config := { maxSteps := 400000 }) only [hlt, decide_true, bytes_at, hx, go_sem, ↓reduceIte, reduceCtorEq, Nat.reduceEqDiff, Nat.reduceAdd, Nat.reduceLT, Nat.reduceLeDiff, Nat.reduceSub, Int.reduceToNat, Int.reduceLE, Int.reduceLT, Int.reduceNeg, Int.reduceBEq, Int.reduceBNe, Nat.reduceMul, Int.reduceAdd, Int.reduceMul, Int.reduceSub, Int.reduceEq, Int.reduceNe]
            have back : badC c.toNat (lastI done) = false → nameGo s.data.toList 45 = nameGo r (lastI (done ++ [c])) := fun h => by
              rw [e2, nameGo, h, lastI_snoc]; rfl
            have gone : badC c.toNat (lastI done) = true → nameGo s.data.toList 45 = false := fun h => by
              rw [e2, nameGo, if_pos h]
            rw [badC_in] at back gone
            have next : badC c.toNat (lastI done) = false → (s.data.toList = (done ++ [c]) ++ r ∧ nameGo s.data.toList 45 = nameGo r (lastI (done ++ [c]))) := fun h => ⟨by simp [e1], by rw [badC_in] at h; exact back h⟩
            rw [badC_in] at next
            cases hc : ((c.toNat : Int) == 45)
            · have hc' : ((c.toNat : Int) != 45) = true := by simp [bne, hc]
              simp (config := { maxSteps := 400000 }) only [hc', hx, wrap_u8, go_sem, ↓reduceIte, reduceCtorEq, Nat.reduceEqDiff, Nat.reduceAdd, Nat.reduceLT, Nat.reduceLeDiff, Nat.reduceSub, Int.reduceToNat, Int.reduceLE, Int.reduceLT, Int.reduceNeg, Int.reduceBEq, Int.reduceBNe, Nat.reduceMul, Int.reduceAdd, Int.reduceMul, Int.reduceSub, Int.reduceEq, Int.reduceNe]
              refine WF_pure (cIn0 _ _ _) rfl ?_
              cases hg : gIn c.toNat 97 122
              · simp (config := { maxSteps := 400000 }) only [hg, go_sem, ↓reduceIte, reduceCtorEq, Nat.reduceEqDiff, Nat.reduceAdd, Nat.reduceLT, Nat.reduceLeDiff, Nat.reduceSub, Int.reduceToNat, Int.reduceLE, Int.reduceLT, Int.reduceNeg, Int.reduceBEq, Int.reduceBNe, Nat.reduceMul, Int.reduceAdd, Int.reduceMul, Int.reduceSub, Int.reduceEq, Int.reduceNe]
                rw [gone (by simp [hc', hg])]
              · simp (config := { maxSteps := 400000 }) only [hg, hx, hc, go_sem, ↓reduceIte, reduceCtorEq, Nat.reduceEqDiff, Nat.reduceAdd, Nat.reduceLT, Nat.reduceLeDiff, Nat.reduceSub, Int.reduceToNat, Int.reduceLE, Int.reduceLT, Int.reduceNeg, Int.reduceBEq, Int.reduceBNe, Nat.reduceMul, Int.reduceAdd, Int.reduceMul, Int.reduceSub, Int.reduceEq, Int.reduceNe]
                refine WB_split (fun hp => ?_) (fun hp => ?_) <;> simp (config := { maxSteps := 400000 }) only [hp, go_sem, ↓reduceIte, reduceCtorEq, Nat.reduceEqDiff, Nat.reduceAdd, Nat.reduceLT, Nat.reduceLeDiff, Nat.reduceSub, Int.reduceToNat, Int.reduceLE, Int.reduceLT, Int.reduceNeg, Int.reduceBEq, Int.reduceBNe, Nat.reduceMul, Int.reduceAdd, Int.reduceMul, Int.reduceSub, Int.reduceEq, Int.reduceNe]
                · simp (config := { maxSteps := 400000 }) only [hx, hc, go_sem, ↓reduceIte, reduceCtorEq, Nat.reduceEqDiff, Nat.reduceAdd, Nat.reduceLT, Nat.reduceLeDiff, Nat.reduceSub, Int.reduceToNat, Int.reduceLE, Int.reduceLT, Int.reduceNeg, Int.reduceBEq, Int.reduceBNe, Nat.reduceMul, Int.reduceAdd, Int.reduceMul, Int.reduceSub, Int.reduceEq, Int.reduceNe]
                  refine WQ_headA (done ++ [c], r) (next (by simp [hc, hg])) (by simp) ?_
                  simp (config := { maxSteps := 400000 }) only [hnx, go_sem, ↓reduceIte, reduceCtorEq, Nat.reduceEqDiff, Nat.reduceAdd, Nat.reduceLT, Nat.reduceLeDiff, Nat.reduceSub, Int.reduceToNat, Int.reduceLE, Int.reduceLT, Int.reduceNeg, Int.reduceBEq, Int.reduceBNe, Nat.reduceMul, Int.reduceAdd, Int.reduceMul, Int.reduceSub, Int.reduceEq, Int.reduceNe]
                · refine WQ_headA (done ++ [c], r) (next (by simp [hc, hg])) (by simp) ?_
                  simp (config := { maxSteps := 400000 }) only [hnx, go_sem, ↓reduceIte, reduceCtorEq, Nat.reduceEqDiff, Nat.reduceAdd, Nat.reduceLT, Nat.reduceLeDiff, Nat.reduceSub, Int.reduceToNat, Int.reduceLE, Int.reduceLT, Int.reduceNeg, Int.reduceBEq, Int.reduceBNe, Nat.reduceMul, Int.reduceAdd, Int.reduceMul, Int.reduceSub, Int.reduceEq, Int.reduceNe]
            · have hc' : ((c.toNat : Int) != 45) = false := by simp [bne, hc]
              simp (config := { maxSteps := 400000 }) only [hc', hx, hc, go_sem, ↓reduceIte, reduceCtorEq, Nat.reduceEqDiff, Nat.reduceAdd, Nat.reduceLT, Nat.reduceLeDiff, Nat.reduceSub, Int.reduceToNat, Int.reduceLE, Int.reduceLT, Int.reduceNeg, Int.reduceBEq, Int.reduceBNe, Nat.reduceMul, Int.reduceAdd, Int.reduceMul, Int.reduceSub, Int.reduceEq, Int.reduceNe]
              rcases List.eq_nil_or_concat done with rfl | ⟨pre, d, hpd⟩
              · exfalso
                rw [e1] at h0
                simp at h0
                subst h0
                rw [hc] at hb0
                cases hb0
              · rw [List.concat_eq_append] at hpd
                subst hpd
                have hp : decide ((0 : Int) < (((pre ++ [d]).length : Nat) : Int)) = true := by simp <;> omega
                have hw1 : IntKind.i64.wrap ((((pre ++ [d]).length : Nat) : Int) - 1) = ((pre.length : Nat) : Int) := by
                  rw [wrap_small (by simp <;> omega) (by simp [room] at hlt ⊢; omega)]; simp
                have hd : s.data.toList[pre.length]? = some d := by rw [e1]; simp
                simp (config := { maxSteps := 400000 }) only [hp, hx, hc, hw1, hd, decide_true, go_sem, ↓reduceIte, reduceCtorEq, Nat.reduceEqDiff, Nat.reduceAdd, Nat.reduceLT, Nat.reduceLeDiff, Nat.reduceSub, Int.reduceToNat, Int.reduceLE, Int.reduceLT, Int.reduceNeg, Int.reduceBEq, Int.reduceBNe, Nat.reduceMul, Int.reduceAdd, Int.reduceMul, Int.reduceSub, Int.reduceEq, Int.reduceNe]
                rw [lastI_snoc] at back gone next
                cases hd45 : ((d.toNat : Int) == 45)
                · simp (config := { maxSteps := 400000 }) only [hd45, go_sem, ↓reduceIte, reduceCtorEq, Nat.reduceEqDiff, Nat.reduceAdd, Nat.reduceLT, Nat.reduceLeDiff, Nat.reduceSub, Int.reduceToNat, Int.reduceLE, Int.reduceLT, Int.reduceNeg, Int.reduceBEq, Int.reduceBNe, Nat.reduceMul, Int.reduceAdd, Int.reduceMul, Int.reduceSub, Int.reduceEq, Int.reduceNe]
                  refine WQ_headA (pre ++ [d] ++ [c], r) (next (by simp [hc, bne, hd45])) (by simp) ?_
                  simp (config := { maxSteps := 400000 }) only [hnx, go_sem, ↓reduceIte, reduceCtorEq, Nat.reduceEqDiff, Nat.reduceAdd, Nat.reduceLT, Nat.reduceLeDiff, Nat.reduceSub, Int.reduceToNat, Int.reduceLE, Int.reduceLT, Int.reduceNeg, Int.reduceBEq, Int.reduceBNe, Nat.reduceMul, Int.reduceAdd, Int.reduceMul, Int.reduceSub, Int.reduceEq, Int.reduceNe]
                · simp (config := { maxSteps := 400000 }) only [hd45, go_sem, ↓reduceIte, reduceCtorEq, Nat.reduceEqDiff, Nat.reduceAdd, Nat.reduceLT, Nat.reduceLeDiff, Nat.reduceSub, Int.reduceToNat, Int.reduceLE, Int.reduceLT, Int.reduceNeg, Int.reduceBEq, Int.reduceBNe, Nat.reduceMul, Int.reduceAdd, Int.reduceMul, Int.reduceSub, Int.reduceEq, Int.reduceNe]
                  rw [gone (by simp [hc, hd45])]
      · simp (config := { maxSteps := 400000 }) only [hbl, go_sem, ↓reduceIte, reduceCtorEq, Nat.reduceEqDiff, Nat.reduceAdd, Nat.reduceLT, Nat.reduceLeDiff, Nat.reduceSub, Int.reduceToNat, Int.reduceLE, Int.reduceLT, Int.reduceNeg, Int.reduceBEq, Int.reduceBNe, Nat.reduceMul, Int.reduceAdd, Int.reduceMul, Int.reduceSub, Int.reduceEq, Int.reduceNe]
        have : ∀ (l : List UInt8) (p : Int), l.getLast? = some bl → nameGo l p = false := by
          intro l
          induction l with
          | nil => intro p h; cases h
          | cons c r ih =>
            intro p h
            unfold nameGo
            split
            · rfl
            · cases r with
              | nil =>
                simp at h
                subst h
                simp [nameGo, bne, hbl]
              | cons c' r' => exact ih _ (by simpa using h)
        rw [this _ _ hgl]
    · simp (config := { maxSteps := 400000 }) only [hb0, go_sem, ↓reduceIte, reduceCtorEq, Nat.reduceEqDiff, Nat.reduceAdd, Nat.reduceLT, Nat.reduceLeDiff, Nat.reduceSub, Int.reduceToNat, Int.reduceLE, Int.reduceLT, Int.reduceNeg, Int.reduceBEq, Int.reduceBNe, Nat.reduceMul, Int.reduceAdd, Int.reduceMul, Int.reduceSub, Int.reduceEq, Int.reduceNe]
      have : nameGo s.data.toList 45 = false := by
        cases hbs : s.data.toList with
        | nil => rw [hbs] at h0; cases h0
        | cons c r =>
          rw [hbs] at h0
          simp at h0
          subst h0
          unfold nameGo
          rw [if_pos]
          simp [badC, hb0]
      rw [this]


/-! names among those before -/
def firstErr {α : Type} (f : List ByteArray → α → Int) (nm : α → ByteArray) : List α → List ByteArray → Option (Int × Int)
  | [], _ => none
  | x :: r, before => if f before x = 0 then firstErr f nm r (before ++ [nm x]) else some ((before.length : Int), f before x)
def triple (t : Int × Int × Int) : PV := .tuple [.int .i64 t.1, .int .i64 t.2.1, .int .i64 t.2.2]
def namedErr (before : List ByteArray) (s : ByteArray) : Int := if nameOk s = true then (if before.any (fun t => t == s) = true then 5 else 0) else 6
theorem cRefNamed (s : ByteArray) (l : List ByteArray) (b : Bool) (hl : l.length < 1000000000) : PCall Try.prog 54 [.str s, .slice 1 (l.map .str) b] (.int .i64 (namedErr l s)) := by
  refine pcall_of_wp draws (fn := Try.f54) (n := 21) (rs := [.tmp 4]) (by kernel_rfl) rfl rfl rfl ok54 (Nat.le_of_ble_eq_true rfl) ?_
  simp (config := { maxSteps := 400000 }) only [go_sem, ↓reduceIte, reduceCtorEq, Nat.reduceEqDiff, Nat.reduceAdd, Nat.reduceLT, Nat.reduceLeDiff, Nat.reduceSub, Int.reduceToNat, Int.reduceLE, Int.reduceLT, Int.reduceNeg, Int.reduceBEq, Int.reduceBNe, Nat.reduceMul, Int.reduceAdd, Int.reduceMul, Int.reduceSub, Int.reduceEq, Int.reduceNe]
  refine WF_pure (cRefName s) rfl ?_
  simp (config := { maxSteps := 400000 }) only [go_sem, ↓reduceIte, reduceCtorEq, Nat.reduceEqDiff, Nat.reduceAdd, Nat.reduceLT, Nat.reduceLeDiff, Nat.reduceSub, Int.reduceToNat, Int.reduceLE, Int.reduceLT, Int.reduceNeg, Int.reduceBEq, Int.reduceBNe, Nat.reduceMul, Int.reduceAdd, Int.reduceMul, Int.reduceSub, Int.reduceEq, Int.reduceNe]
  cases hn : nameOk s
  · simp (config := { maxSteps := 400000 }) only [go_sem, ↓reduceIte, reduceCtorEq, Nat.reduceEqDiff, Nat.reduceAdd, Nat.reduceLT, Nat.reduceLeDiff, Nat.reduceSub, Int.reduceToNat, Int.reduceLE, Int.reduceLT, Int.reduceNeg, Int.reduceBEq, Int.reduceBNe, Nat.reduceMul, Int.reduceAdd, Int.reduceMul, Int.reduceSub, Int.reduceEq, Int.reduceNe]
    simp [namedErr, hn]
  · simp (config := { maxSteps := 400000 }) only [go_sem, ↓reduceIte, reduceCtorEq, Nat.reduceEqDiff, Nat.reduceAdd, Nat.reduceLT, Nat.reduceLeDiff, Nat.reduceSub, Int.reduceToNat, Int.reduceLE, Int.reduceLT, Int.reduceNeg, Int.reduceBEq, Int.reduceBNe, Nat.reduceMul, Int.reduceAdd, Int.reduceMul, Int.reduceSub, Int.reduceEq, Int.reduceNe]
    refine W_loopH [0, 1] (σ := List ByteArray × List ByteArray) (fun q => l = q.1 ++ q.2 ∧ namedErr l s = (if q.2.any (fun t => t == s) = true then 5 else 0)) (fun q => q.2.length) (fun q => [(5, .p (.int .i64 q.1.length))]) ([], l) ⟨rfl, by simp [namedErr, hn]⟩ ?_ ?_
    · simp (config := { maxSteps := 400000 }) only [go_sem, ↓reduceIte, reduceCtorEq, Nat.reduceEqDiff, Nat.reduceAdd, Nat.reduceLT, Nat.reduceLeDiff, Nat.reduceSub, Int.reduceToNat, Int.reduceLE, Int.reduceLT, Int.reduceNeg, Int.reduceBEq, Int.reduceBNe, Nat.reduceMul, Int.reduceAdd, Int.reduceMul, Int.reduceSub, Int.reduceEq, Int.reduceNe] <;> simp
    · rintro ⟨done, rest⟩ ⟨e1, e2⟩
      dsimp only at e1 e2
      cases rest with
      | nil =>
        have hlt : ¬ ((done.length : Int) < (l.length : Int)) := by rw [e1]; simp
        simp (config := { maxSteps := 400000 }) only [hlt, decide_false, go_sem, ↓reduceIte, reduceCtorEq, Nat.reduceEqDiff, Nat.reduceAdd, Nat.reduceLT, Nat.reduceLeDiff, Nat.reduceSub, Int.reduceToNat, Int.reduceLE, Int.reduceLT, Int.reduceNeg, Int.reduceBEq, Int.reduceBNe, Nat.reduceMul, Int.reduceAdd, Int.reduceMul, Int.reduceSub, Int.reduceEq, Int.reduceNe]
        rw [e2]; rfl
      | cons x r =>
        obtain ⟨hx, hlt⟩ := list_at e1
        have hnx : IntKind.i64.wrap ((done.length : Int) + 1) = (((done ++ [x]).length : Nat) : Int) := wrap_add (by omega) (by simp [room]; omega) (by simp)
        simp (config := { maxSteps := 400000 }) only [hlt, decide_true, hx, go_sem, ↓reduceIte, reduceCtorEq, Nat.reduceEqDiff, Nat.reduceAdd, Nat.reduceLT, Nat.reduceLeDiff, Nat.reduceSub, Int.reduceToNat, Int.reduceLE, Int.reduceLT, Int.reduceNeg, Int.reduceBEq, Int.reduceBNe, Nat.reduceMul, Int.reduceAdd, Int.reduceMul, Int.reduceSub, Int.reduceEq, Int.reduceNe]
        rw [List.any_cons] at e2
        cases hb : (x == s)
        · simp (config := { maxSteps := 400000 }) only [go_sem, ↓reduceIte, reduceCtorEq, Nat.reduceEqDiff, Nat.reduceAdd, Nat.reduceLT, Nat.reduceLeDiff, Nat.reduceSub, Int.reduceToNat, Int.reduceLE, Int.reduceLT, Int.reduceNeg, Int.reduceBEq, Int.reduceBNe, Nat.reduceMul, Int.reduceAdd, Int.reduceMul, Int.reduceSub, Int.reduceEq, Int.reduceNe]
          refine WQ_headA (done ++ [x], r) ⟨by simp [e1], by rw [e2, hb]; rfl⟩ (by simp) ?_
          simp (config := { maxSteps := 400000 }) only [hnx, go_sem, ↓reduceIte, reduceCtorEq, Nat.reduceEqDiff, Nat.reduceAdd, Nat.reduceLT, Nat.reduceLeDiff, Nat.reduceSub, Int.reduceToNat, Int.reduceLE, Int.reduceLT, Int.reduceNeg, Int.reduceBEq, Int.reduceBNe, Nat.reduceMul, Int.reduceAdd, Int.reduceMul, Int.reduceSub, Int.reduceEq, Int.reduceNe]
        · simp (config := { maxSteps := 400000 }) only [go_sem, ↓reduceIte, reduceCtorEq, Nat.reduceEqDiff, Nat.reduceAdd, Nat.reduceLT, Nat.reduceLeDiff, Nat.reduceSub, Int.reduceToNat, Int.reduceLE, Int.reduceLT, Int.reduceNeg, Int.reduceBEq, Int.reduceBNe, Nat.reduceMul, Int.reduceAdd, Int.reduceMul, Int.reduceSub, Int.reduceEq, Int.reduceNe]
          rw [e2, hb]; rfl

end Abs
end Go.Proofs.Ythekmbikolpmlaa
