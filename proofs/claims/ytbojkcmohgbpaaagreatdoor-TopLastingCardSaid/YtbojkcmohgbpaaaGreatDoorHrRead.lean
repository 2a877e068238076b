/-
  CONTRACTS: Read: what is read out of a text, and that it ends in ErrForm otherwise. No conditions but those in the theorems' heads.
-/
import Derived.Test.YtbojkcmohgbpaaaGreatDoorHrTxtX
namespace Go.Proofs.YtbojkcmohgbpaaaGreatDoor
namespace Abs
set_option linter.unusedSimpArgs false
set_option linter.unusedVariables false
set_option maxRecDepth 4000
def markRow (p : List UInt8) : Option HrMark :=
  match (cutL 32 p).2 with
  | none => none
  | some b => match numL (cutL 32 p).1 with
    | none => none
    | some m => match numL b with
      | none => none
      | some w => some ⟨m, w⟩
def rowsGo : List HrMark → List (List UInt8) → Option (List HrMark)
  | acc, [] => some acc
  | acc, p :: r => match markRow p with
    | none => none
    | some m => rowsGo (acc ++ [m]) r
def wordsH (all : List UInt8) : List (List UInt8) := splitL 32 (cutL 10 all).1
def restH (all : List UInt8) : List UInt8 := trimL 10 ((cutL 10 all).2.getD [])
def idxName (l : List HrKind) (nm : ByteArray) : Int := idxF (fun k => k.name == nm) l 0
def parseH (s : HrShop) (all : List UInt8) : Option HrTest :=
  match wordsH all with
  | [_, w1, w2] => match numL w2 with
    | none => none
    | some e => (rowsGo [] (splitL 10 (restH all))).map fun ms => ⟨idxName s.kinds (bs w1), e, ms⟩
  | _ => none
def zeroTest : HrTest := ⟨0, 0, []⟩
def goodT (s : HrShop) (all : List UInt8) (t : HrTest) : Bool := (hrTestErr s.kinds.length t == 0) && (textL s t == all)
def hrReadH (s : HrShop) (all : List UInt8) : HrTest × Int :=
  if hrOpen s [] = 0 then
    if 300 < all.length then (zeroTest, 3)
    else match parseH s all with
      | none => (zeroTest, 6)
      | some t => if goodT s all t = true then (t, 0) else (zeroTest, 6)
  else (zeroTest, hrOpen s [])
theorem rowsGo_append : ∀ (a : List (List UInt8)) (acc : List HrMark) (b : List (List UInt8)), rowsGo acc (a ++ b) = (rowsGo acc a).bind fun ms => rowsGo ms b
  | [], _, _ => rfl
  | p :: r, acc, b => by
    rw [List.cons_append, rowsGo, rowsGo]
    cases markRow p with
    | none => rfl
    | some m => exact rowsGo_append r _ b
theorem rowsGo_len : ∀ (a : List (List UInt8)) (acc ms : List HrMark), rowsGo acc a = some ms → ms.length = acc.length + a.length
  | [], _, _, h => by cases h; rfl
  | p :: r, acc, ms, h => by
    rw [rowsGo] at h
    cases hm : markRow p with
    | none => rw [hm] at h; cases h
    | some m =>
      rw [hm] at h
      have := rowsGo_len r _ _ h
      simp at this ⊢; omega
theorem split_len (c : UInt8) : ∀ (l p : List UInt8), p ∈ splitL c l → p.length ≤ l.length := by
  intro l
  generalize hn : l.length = n
  induction n using Nat.strongRecOn generalizing l with
  | ind n ih =>
    intro p hp
    cases hc : (cutL c l).2 with
    | none =>
      rw [splitL_none hc, List.mem_singleton] at hp
      subst hp; omega
    | some r =>
      rw [splitL_some hc, List.mem_cons] at hp
      have hr := cutL_len c l r hc
      rcases hp with rfl | hp
      · rcases idx_cut c l with ⟨h, _⟩ | ⟨_, _, _, h⟩
        · rw [h] at hc; cases hc
        · have := congrArg List.length h; simp at this; omega
      · have := ih r.length (by omega) r rfl p hp
        omega
theorem trimL_len (c : UInt8) (l : List UInt8) : (trimL c l).length ≤ l.length := by
  unfold trimL
  split
  · simp
  · exact Nat.le_refl _
theorem cut_rest_len (c : UInt8) (l : List UInt8) : ((cutL c l).2.getD []).length ≤ l.length := by
  cases hc : (cutL c l).2 with
  | none => simp
  | some r => have := cutL_len c l r hc; simp; omega
theorem cut_first_len (c : UInt8) (l : List UInt8) : (cutL c l).1.length ≤ l.length := by
  rcases idx_cut c l with ⟨_, h, _⟩ | ⟨r, _, _, h⟩
  · rw [h]; exact Nat.le_refl _
  · have := congrArg List.length h; simp at this; omega
def readZ : PV := .agg [.int .i64 0, .int .i64 0, .nilslice]
theorem dReadP {i j : Nat} {a b c : PV} {e0 : Int} {h : Heap} (hi : h[i]? = some (.row 3 [.p (.agg [a, b, c])])) (hj : h[j]? = some (.row 1 [.p (.int .i64 e0)])) (hij : i ≠ j) :
    DCall Tryz.prog 66 [.ptr i 1 0 0, .ptr j 1 0 0] (.pan errForm) h
    (fun r u h' => r = .ret (.p (.tuple [])) ∧ u = .recd errForm ∧ h' = (h.set i (.row 3 [.p readZ])).set j (.row 1 [.p (.int .i64 6)])) := by
  refine dcall_of_wp draws (fn := Tryz.f66) (n := 9) (rs := []) (by kernel_rfl) rfl rfl rfl ok66 (Nat.le_of_ble_eq_true rfl) ?_
  have hil := (List.getElem?_eq_some_iff.1 hi).1
  have gd : ∀ x, (h.set i x)[i]? = some x := fun x => List.getElem?_set_self hil
  have gj : ∀ x, (h.set i x)[j]? = some (.row 1 [.p (.int .i64 e0)]) := fun x => by rw [List.getElem?_set_ne hij]; exact hj
  simp (maxSteps := 400000) only [rcOf, modeOf, hi, hj, errForm, gd, gj, H66, W_drawH, readZ, List.append_nil, go_sem, simprocAttr]
theorem leave_readP {rs : List ResultVar} {R : AEnd → Heap → Prop} {T : Nat → AV} {i j : Nat} {a b c : PV} {e0 : Int} {h : Heap} (hi : h[i]? = some (.row 3 [.p (.agg [a, b, c])])) (hj : h[j]? = some (.row 1 [.p (.int .i64 e0)])) (hij : i ≠ j)
    (k : aLeave Tryz.prog rs R T [] .ret ((h.set i (.row 3 [.p readZ])).set j (.row 1 [.p (.int .i64 6)]))) :
    aLeave Tryz.prog rs R T [.fn 66 [.ptr i 1 0 0, .ptr j 1 0 0]] (.pan errForm) h := by
  rw [leave_fn]
  refine (dReadP hi hj hij).mono fun r u h' hr => ?_
  obtain ⟨rfl, rfl, rfl⟩ := hr
  exact k
theorem dReadA {i j : Nat} {a b : PV} {q n : Nat} {e0 : Int} {h : Heap} (hi : h[i]? = some (.row 3 [.agg [.p a, .p b, .slice q n 0 n]])) (hj : h[j]? = some (.row 1 [.p (.int .i64 e0)])) (hij : i ≠ j) :
    DCall Tryz.prog 66 [.ptr i 1 0 0, .ptr j 1 0 0] (.pan errForm) h
    (fun r u h' => r = .ret (.p (.tuple [])) ∧ u = .recd errForm ∧ h' = (h.set i (.row 3 [.p readZ])).set j (.row 1 [.p (.int .i64 6)])) := by
  refine dcall_of_wp draws (fn := Tryz.f66) (n := 9) (rs := []) (by kernel_rfl) rfl rfl rfl ok66 (Nat.le_of_ble_eq_true rfl) ?_
  have hil := (List.getElem?_eq_some_iff.1 hi).1
  have gd : ∀ x, (h.set i x)[i]? = some x := fun x => List.getElem?_set_self hil
  have gj : ∀ x, (h.set i x)[j]? = some (.row 1 [.p (.int .i64 e0)]) := fun x => by rw [List.getElem?_set_ne hij]; exact hj
  simp (maxSteps := 400000) only [rcOf, modeOf, hi, hj, errForm, gd, gj, H66, W_drawH, readZ, List.append_nil, go_sem, simprocAttr]
theorem leave_readA {rs : List ResultVar} {R : AEnd → Heap → Prop} {T : Nat → AV} {i j : Nat} {a b : PV} {q n : Nat} {e0 : Int} {h : Heap} (hi : h[i]? = some (.row 3 [.agg [.p a, .p b, .slice q n 0 n]])) (hj : h[j]? = some (.row 1 [.p (.int .i64 e0)])) (hij : i ≠ j)
    (k : aLeave Tryz.prog rs R T [] .ret ((h.set i (.row 3 [.p readZ])).set j (.row 1 [.p (.int .i64 6)]))) :
    aLeave Tryz.prog rs R T [.fn 66 [.ptr i 1 0 0, .ptr j 1 0 0]] (.pan errForm) h := by
  rw [leave_fn]
  refine (dReadA hi hj hij).mono fun r u h' hr => ?_
  obtain ⟨rfl, rfl, rfl⟩ := hr
  exact k
theorem dReadNo {i j : Nat} {h : Heap} : DCall Tryz.prog 66 [.ptr i 1 0 0, .ptr j 1 0 0] .ret h (fun r u h' => r = .ret (.p (.tuple [])) ∧ u = .ret ∧ h' = h) := by
  refine dcall_of_wp draws (fn := Tryz.f66) (n := 9) (rs := []) (by kernel_rfl) rfl rfl rfl ok66 (Nat.le_of_ble_eq_true rfl) ?_
  simp (maxSteps := 400000) only [rcOf, modeOf, go_sem, simprocAttr]
theorem leave_readNo {rs : List ResultVar} {R : AEnd → Heap → Prop} {T : Nat → AV} {i j : Nat} {h : Heap} (k : aLeave Tryz.prog rs R T [] .ret h) : aLeave Tryz.prog rs R T [.fn 66 [.ptr i 1 0 0, .ptr j 1 0 0]] .ret h := by
  rw [leave_fn]
  refine dReadNo.mono fun r u h' hr => ?_
  obtain ⟨rfl, rfl, rfl⟩ := hr
  exact k
theorem cSeek (k : HrKind) (w0 w1 w2 : List UInt8) : PCall Tryz.prog 71 [k.pv, .ptr 1 [strsPV [w0, w1, w2]] 0 0] (.bool (k.name == bs w1)) := by
  refine pcall_of_wp draws (fn := Tryz.f71) (n := 10) (rs := [.tmp 3]) (by kernel_rfl) rfl rfl rfl ok71 (Nat.le_of_ble_eq_true rfl) ?_
  simp (maxSteps := 400000) only [strsPV, List.map_cons, go_sem, simprocAttr]
def readPV (t : HrTest) : PV := .agg [.int .i64 t.kind, .int .i64 t.error, match t.marks with | [] => .nilslice | m :: ms => .slice 2 ((m :: ms).map HrMark.pv) false]
def tRow (k e : Int) (ms : List HrMark) : AObj := match ms with | [] => .row 3 [.p (.agg [.int .i64 k, .int .i64 e, .nilslice])] | m :: r => .row 3 [.agg [.p (.int .i64 k), .p (.int .i64 e), .slice 9 (m :: r).length 0 (m :: r).length]]
def mRows (ms : List HrMark) : Heap := match ms with | [] => [] | m :: r => [.row 2 ((m :: r).map markC)]
def readHp (s : HrShop) (ws : List (List UInt8)) (k e : Int) (d o : AObj) (x : List UInt8) (ms : List HrMark) : Heap :=
  [.row 3 [.p s.pv], tRow k e ms, .row 1 [.p (.int .i64 0)], .row 1 [.p (strsPV ws)], .row 1 [.p (.str (bs x))], .row 1 [.p (.str (bs [10]))], .row 1 [.p (.int .i64 0)], d, o] ++ mRows ms
set_option maxHeartbeats 4000000 in
theorem cReadH0 (s : HrShop) (all : List UInt8) : PCall Tryz.prog 35 [s.pv, .str (bs all)] (.tuple [readPV (hrReadH s all).1, .int .i64 (hrReadH s all).2]) := by
  refine pcall_of_wp_frz draws (fn := Tryz.f35) (n := 82) (rs := [.cell 4 57, .cell 5 35]) (by kernel_rfl) rfl rfl rfl ok35 (Nat.le_of_ble_eq_true rfl) ?_
  simp (maxSteps := 400000) only [go_sem, simprocAttr]
  refine WF_pure (PCall.argless (args' := [s.pv, .nilslice]) (cHrOpen s [] false (by simp)) ⟨.inl rfl, .inr ⟨rfl, 3, rfl⟩, trivial⟩) rfl ?_
  simp (maxSteps := 400000) only [go_sem, simprocAttr]
  have hop : hrOpen s [] = (hrCheck s).2.2 := by
    unfold hrOpen
    split
    · rename_i h; rw [h]; rfl
    · rfl
  cases h0 : (hrOpen s [] != 0)
  rotate_left
  · have h0' : ¬ hrOpen s [] = 0 := by simpa using h0
    have hsp : hrReadH s all = (zeroTest, hrOpen s []) := by rw [hrReadH, if_neg h0']
    rw [hsp]
    simp (maxSteps := 400000) only [H35, W_drawH, readPV, zeroTest, go_sem, simprocAttr]
  have h0' : hrOpen s [] = 0 := by simpa using h0
  have hck : (hrCheck s).2.2 = 0 := by rw [← hop, h0']
  have hkk := hrCheck_kinds hck
  have hsz : ((bs all).size : Int) = (all.length : Int) := by rw [bs_size]
  simp (maxSteps := 400000) only [hsz, go_sem, simprocAttr]
  cases h3 : decide ((300 : Int) < (all.length : Int))
  rotate_left
  · have h3' : 300 < all.length := by simp at h3; omega
    have hsp : hrReadH s all = (zeroTest, 3) := by rw [hrReadH, if_pos h0', if_pos h3']
    rw [hsp]
    simp (maxSteps := 400000) only [H35, W_drawH, readPV, zeroTest, h0', go_sem, simprocAttr]
  have h3' : ¬ 300 < all.length := by simp at h3; omega
  have hsp : hrReadH s all = (match parseH s all with | none => (zeroTest, 6) | some t => if goodT s all t = true then (t, 0) else (zeroTest, 6)) := by rw [hrReadH, if_pos h0', if_neg h3']
  rw [hsp]
  have c10 : (⟨#[10]⟩ : ByteArray) = bs [10] := rfl
  have c32 : (⟨#[32]⟩ : ByteArray) = bs [32] := rfl
  simp (maxSteps := 400000) only [c10, c32, h0', go_sem, simprocAttr]
  refine WF_pure (cStrCut all 10 (by omega)) rfl ?_
  simp (maxSteps := 400000) only [c10, c32, go_sem, simprocAttr]
  have hcl := cut_first_len 10 all
  refine WF_pure (cStrSplit (cutL 10 all).1 32 (by omega)) rfl ?_
  have hws : splitL 32 (cutL 10 all).1 = wordsH all := rfl
  rw [hws]
  simp (maxSteps := 400000) only [strsPV, go_sem, simprocAttr]
  refine WF_mustH (fun hb => ?_) (fun hb => ?_)
  rotate_left
  · have hpn : parseH s all = none := by
      unfold parseH
      split
      · rename_i w0 w1 w2 hw; rw [hw] at hb; cases hb
      · rfl
    rw [hpn]
    simp (maxSteps := 400000) only [go_sem, simprocAttr]
    refine leave_readP rfl rfl (by decide) ?_
    simp (maxSteps := 400000) only [readZ, readPV, zeroTest, go_sem, simprocAttr]
  obtain ⟨w0, w1, w2, hw⟩ : ∃ w0 w1 w2, wordsH all = [w0, w1, w2] := by
    have hl0 : ((wordsH all).length : Int) = 3 := by simpa using hb
    have hl : (wordsH all).length = 3 := by omega
    match h : wordsH all, hl with
    | [a, b, c], _ => exact ⟨a, b, c, rfl⟩
  have hpar : parseH s all = (match numL w2 with | none => none | some e => (rowsGo [] (splitL 10 (restH all))).map fun ms => ⟨idxName s.kinds (bs w1), e, ms⟩) := by
    rw [parseH, hw]
  rw [hpar, hw]
  simp (maxSteps := 400000) only [List.map_cons, List.map_nil, go_sem, simprocAttr]
  refine WF_frz (cIndexFunc3 (fv := .func (.func 71) [] [.ptr 1 [strsPV [w0, w1, w2]] 0 0]) s.kinds (fun k => k.name == bs w1) false 4 rfl (by omega) fun k _ => ⟨_, _, _, rfl, cSeek k w0 w1 w2⟩) ?_ (.int _ _) ?_
  · simp (maxSteps := 400000) only [strsPV, List.map_cons, List.map_nil, go_sem, simprocAttr]
  have hix : idxF (fun k => k.name == bs w1) s.kinds 0 = idxName s.kinds (bs w1) := rfl
  rw [hix]
  have hwl : w2.length ≤ all.length := Nat.le_trans (split_len 32 (cutL 10 all).1 w2 (by rw [hws, hw]; simp)) hcl
  simp (maxSteps := 400000) only [go_sem, simprocAttr]
  cases hnu : numL w2 with
  | none =>
    refine WF_call (hNumberPan (by omega) hnu _) (fun v h hr => by cases hr.1) (fun v h hr => ?_)
    obtain ⟨hr, rfl⟩ := hr
    cases hr
    simp (maxSteps := 400000) only [go_sem, simprocAttr]
    refine leave_readP rfl rfl (by decide) ?_
    simp (maxSteps := 400000) only [readZ, readPV, zeroTest, go_sem, simprocAttr]
  | some e =>
    refine WF_pure (cNumber (by omega) hnu) rfl ?_
    simp (maxSteps := 400000) only [c10, go_sem, simprocAttr]
    refine WF_pure (cTrimSuffix ((cutL 10 all).2.getD []) 10 (by have := cut_rest_len 10 all; omega)) rfl ?_
    have hrs : trimL 10 ((cutL 10 all).2.getD []) = restH all := rfl
    rw [hrs]
    have hrl : (restH all).length ≤ 300 := by
      have h1 := cut_rest_len 10 all
      have h2 := trimL_len 10 ((cutL 10 all).2.getD [])
      rw [hrs] at h2
      omega
    generalize idxName s.kinds (bs w1) = kd
    generalize restH all = rest at hrl
    simp (maxSteps := 400000) only [c10, go_sem, simprocAttr]
    refine WF_ret (hSplitSeq rest 10 _) ?_
    simp (maxSteps := 400000) only [go_sem, simprocAttr]
    have hT1 : ∀ x ms o, (readHp s [w0, w1, w2] kd e .dblock o x ms)[8]? = some o := fun x ms o => by cases ms <;> rfl
    refine W_rangeO (f := 124) (args := [.ref .yl 8, .ptr 5 1 0 0, .ptr 4 1 0 0, .ptr 6 1 0 0])
      (R := fun r h => (r = .ret (.p (.tuple [])) ∧ ∃ x ms o, rowsGo [] (splitL 10 rest) = some ms ∧ h = readHp s [w0, w1, w2] kd e .dblock o x ms) ∨ ∃ v, r = .panic v ∧ v = errForm ∧ rowsGo [] (splitL 10 rest) = none ∧ ∃ x ms o, h = readHp s [w0, w1, w2] kd e .dblock o x ms)
      rfl (by simp (maxSteps := 400000) only [go_sem, simprocAttr]) draws (by kernel_rfl) (by kernel_rfl) (by kernel_rfl) (fun oR oB oD hround => ?_) (fun v h hr => ?_)
    rotate_left
    · rcases hr with ⟨hr, _⟩ | ⟨v', hr, rfl, hnone, x, ms, o, rfl⟩
      · cases hr
      cases hr
      rw [hnone]
      cases ms with
      | nil =>
        simp (maxSteps := 400000) only [readHp, tRow, mRows, leave_collected, go_sem, simprocAttr]
        refine leave_readP rfl rfl (by decide) ?_
        simp (maxSteps := 400000) only [readZ, readPV, zeroTest, go_sem, simprocAttr]
      | cons m ms =>
        simp (maxSteps := 400000) only [readHp, tRow, mRows, leave_collected, go_sem, simprocAttr]
        refine leave_readA rfl rfl (by decide) ?_
        simp (maxSteps := 400000) only [readZ, readPV, zeroTest, go_sem, simprocAttr]
    refine (hSeqGo rest 10 (by omega) 8 4 5 6 _ (fun done x h => ∃ ms, rowsGo [] done = some ms ∧ h = readHp s [w0, w1, w2] kd e .dblock oR x ms) (fun done x h => ∃ ms, rowsGo [] done = some ms ∧ h = readHp s [w0, w1, w2] kd e .dblock oR x ms)
      (fun v h => v = errForm ∧ rowsGo [] (splitL 10 rest) = none ∧ ∃ x ms o, h = readHp s [w0, w1, w2] kd e .dblock o x ms) ?_ ?_ ?_ ?_ ?_).mono ?_
    · rintro done x h ⟨ms, _, rfl⟩
      cases ms <;> exact ⟨rfl, rfl, rfl⟩
    · rintro done x h ⟨ms, _, rfl⟩
      cases ms <;> exact ⟨rfl, rfl, rfl⟩
    · rintro done x h hsp ⟨ms, hms, rfl⟩
      have hpl : (cutL 10 x).1.length ≤ 300 := by
        have := split_len 10 rest (cutL 10 x).1 (by rw [hsp, List.mem_append, splitL_cut]; exact .inr (by simp))
        omega
      obtain ⟨more, hmore⟩ : ∃ more, splitL 10 x = (cutL 10 x).1 :: more := ⟨_, splitL_cut 10 x⟩
      rw [hmore] at hsp
      generalize (cutL 10 x).1 = p at hpl hmore hsp
      have hrows : rowsGo [] (splitL 10 rest) = (match markRow p with | none => none | some m => rowsGo (ms ++ [m]) more) := by
        rw [hsp, rowsGo_append, hms, Option.bind_some, rowsGo]
      have hnext : ∀ m, markRow p = some m → rowsGo [] (done ++ [p]) = some (ms ++ [m]) := fun m hm => by
        rw [rowsGo_append, hms, Option.bind_some, rowsGo, hm]; rfl
      have hc1 := cut_first_len 32 p
      have hc2 := cut_rest_len 32 p
      refine hround _ _ _ rfl (hT1 _ _ _) ?_
      clear hround
      have hml : ms.length ≤ 301 := by
        have h1 := rowsGo_len _ _ _ hms
        have h2 := splitL_le 10 rest
        have h3 := congrArg List.length hsp
        simp at h1 h3
        omega
      cases ms with
      | nil =>
        have hrm : (1 : Nat) ≤ room := by simp [room]
        simp (maxSteps := 400000) only [readHp, tRow, mRows, c32, go_sem, simprocAttr]
        refine WF_pure (cStrCut p 32 (by omega)) rfl ?_
        simp (maxSteps := 400000) only [go_sem, simprocAttr]
        refine WF_mustH (fun hb => ?_) (fun hb => ?_)
        rotate_left
        · have hmr : markRow p = none := by
            unfold markRow
            cases hq : (cutL 32 p).2 with
            | none => rfl
            | some b => rw [hq] at hb; cases hb
          rw [hmr] at hrows
          simp (maxSteps := 400000) only [go_sem, simprocAttr]
          exact ⟨rfl, _, rfl, rfl, hrows, x, [], oB, rfl⟩
        obtain ⟨b, hb'⟩ := Option.isSome_iff_exists.1 hb
        rw [hb', Option.getD_some] at hc2 ⊢
        simp (maxSteps := 400000) only [H35, W_drawH, go_sem, simprocAttr]
        cases hn1 : numL (cutL 32 p).1 with
        | none =>
          have hmr : markRow p = none := by simp only [markRow, hb', hn1]
          rw [hmr] at hrows
          refine WDR_panic (hNumberPan (by omega) hn1 _) fun T => ?_
          simp (maxSteps := 400000) only [go_sem, simprocAttr]
          exact ⟨rfl, _, rfl, rfl, hrows, x, [], oB, rfl⟩
        | some a =>
          refine WDR_pure (cNumber (by omega) hn1) rfl ?_
          simp (maxSteps := 400000) only [H35, W_drawH, go_sem, simprocAttr]
          cases hn2 : numL b with
          | none =>
            have hmr : markRow p = none := by simp only [markRow, hb', hn1, hn2]
            rw [hmr] at hrows
            refine WDR_panic (hNumberPan (by omega) hn2 _) fun T => ?_
            simp (maxSteps := 400000) only [go_sem, simprocAttr]
            exact ⟨rfl, _, rfl, rfl, hrows, x, [], oB, rfl⟩
          | some w =>
            have hmr : markRow p = some ⟨a, w⟩ := by simp only [markRow, hb', hn1, hn2]
            have hnx := hnext _ hmr
            refine WDR_pure (cNumber (by omega) hn2) rfl ?_
            simp (maxSteps := 400000) only [H35, W_drawH, hrm, List.length_append, List.length_singleton, go_sem, simprocAttr]
            exact ⟨rfl, .inl ⟨_, hnx, rfl⟩⟩
      | cons m0 ms =>
        simp only [List.length_cons] at hml
        have hrm : ms.length + 1 + 1 ≤ room := by simp [room]; omega
        simp (maxSteps := 400000) only [readHp, tRow, mRows, c32, go_sem, simprocAttr]
        refine WF_pure (cStrCut p 32 (by omega)) rfl ?_
        simp (maxSteps := 400000) only [go_sem, simprocAttr]
        refine WF_mustH (fun hb => ?_) (fun hb => ?_)
        rotate_left
        · have hmr : markRow p = none := by
            unfold markRow
            cases hq : (cutL 32 p).2 with
            | none => rfl
            | some b => rw [hq] at hb; cases hb
          rw [hmr] at hrows
          simp (maxSteps := 400000) only [go_sem, simprocAttr]
          exact ⟨rfl, _, rfl, rfl, hrows, x, m0 :: ms, oB, rfl⟩
        obtain ⟨b, hb'⟩ := Option.isSome_iff_exists.1 hb
        rw [hb', Option.getD_some] at hc2 ⊢
        simp (maxSteps := 400000) only [H35, W_drawH, go_sem, simprocAttr]
        cases hn1 : numL (cutL 32 p).1 with
        | none =>
          have hmr : markRow p = none := by simp only [markRow, hb', hn1]
          rw [hmr] at hrows
          refine WDR_panic (hNumberPan (by omega) hn1 _) fun T => ?_
          simp (maxSteps := 400000) only [go_sem, simprocAttr]
          exact ⟨rfl, _, rfl, rfl, hrows, x, m0 :: ms, oB, rfl⟩
        | some a =>
          refine WDR_pure (cNumber (by omega) hn1) rfl ?_
          simp (maxSteps := 400000) only [H35, W_drawH, go_sem, simprocAttr]
          cases hn2 : numL b with
          | none =>
            have hmr : markRow p = none := by simp only [markRow, hb', hn1, hn2]
            rw [hmr] at hrows
            refine WDR_panic (hNumberPan (by omega) hn2 _) fun T => ?_
            simp (maxSteps := 400000) only [go_sem, simprocAttr]
            exact ⟨rfl, _, rfl, rfl, hrows, x, m0 :: ms, oB, rfl⟩
          | some w =>
            have hmr : markRow p = some ⟨a, w⟩ := by simp only [markRow, hb', hn1, hn2]
            have hnx := hnext _ hmr
            refine WDR_pure (cNumber (by omega) hn2) rfl ?_
            simp (maxSteps := 400000) only [H35, W_drawH, hrm, List.length_append, List.length_singleton, go_sem, simprocAttr]
            refine ⟨rfl, .inl ⟨_, hnx, ?_⟩⟩
            simp [readHp, tRow, mRows, HrMark.pv, markC, HrShop.pv]
    · rintro done x y h ⟨ms, hms, rfl⟩ hc
      refine ⟨ms, hms, ?_⟩
      cases ms <;> rfl
    · exact ⟨[], rfl, rfl⟩
    · rintro r h (⟨rfl, x, hx, ms, hms, rfl⟩ | ⟨v, rfl, rfl, hnone, hh⟩)
      rotate_left
      · exact ⟨.inr ⟨_, rfl, rfl, hnone, hh⟩, fun v hv => by cases hv⟩
      refine ⟨.inl ⟨rfl, x, ms, oR, hms, rfl⟩, fun v hv => .inl ⟨hT1 _ _ _, ?_⟩⟩
      rw [hms]
      clear hround
      have hml : ms.length ≤ 301 := by
        have h1 := rowsGo_len _ _ _ hms
        have h2 := splitL_le 10 rest
        simp at h1
        omega
      have hne : ms ≠ [] := by
        rintro rfl
        have h1 := rowsGo_len _ _ _ hms
        have h2 := splitL_pos 10 rest
        simp at h1; omega
      cases ms with
      | nil => exact absurd rfl hne
      | cons m0 ms =>
      have hfz : ∀ n h, frzList (frzN n h) (ms.map markC) = some (ms.map HrMark.pv) := fun n h => frzList_map (frzN_p n h) HrMark.pv ms
      have htk : List.take (ms.length + 1) (.agg [.int .i64 m0.minute, .int .i64 m0.weight] :: List.map HrMark.pv ms) = .agg [.int .i64 m0.minute, .int .i64 m0.weight] :: List.map HrMark.pv ms := List.take_of_length_le (by simp)
      simp (maxSteps := 400000) only [readHp, tRow, mRows, H35, W_drawH, go_sem, simprocAttr]
      refine WF_frz (cHrCheckT s ⟨kd, e, m0 :: ms⟩ (by omega)) ?_ (.int _ _) ?_
      · simp (maxSteps := 400000) only [hfz, htk, go_sem, simprocAttr]
      simp (maxSteps := 400000) only [go_sem, simprocAttr]
      cases hte : (hrTestErr s.kinds.length ⟨kd, e, m0 :: ms⟩ == 0)
      · have hg : goodT s all ⟨kd, e, m0 :: ms⟩ = false := by rw [goodT, hte]; rfl
        simp (maxSteps := 400000) only [go_sem, simprocAttr]
        refine WF_mustH (fun hb => by cases hb) (fun _ => ?_)
        simp (maxSteps := 400000) only [leave_collected, go_sem, simprocAttr]
        refine leave_readA rfl rfl (by decide) ?_
        simp (maxSteps := 400000) only [readZ, readPV, zeroTest, hg, go_sem, simprocAttr]
      have hte' : hrTestErr s.kinds.length ⟨kd, e, m0 :: ms⟩ = 0 := by simpa using hte
      simp (maxSteps := 400000) only [go_sem, simprocAttr]
      refine WF_frz (cText s ⟨kd, e, m0 :: ms⟩ hck hte') ?_ (.str _) ?_
      · simp (maxSteps := 400000) only [hfz, htk, go_sem, simprocAttr]
      simp (maxSteps := 400000) only [bs_beq, go_sem, simprocAttr]
      have hg : goodT s all ⟨kd, e, m0 :: ms⟩ = (textL s ⟨kd, e, m0 :: ms⟩ == all) := by rw [goodT, hte]; rfl
      refine WF_mustH (fun hb => ?_) (fun hb => ?_)
      · rw [hb] at hg
        simp (maxSteps := 400000) only [leave_collected, go_sem, simprocAttr]
        refine leave_readNo ?_
        simp (maxSteps := 400000) only [hfz, htk, readPV, hg, go_sem, simprocAttr]
      · rw [hb] at hg
        simp (maxSteps := 400000) only [leave_collected, go_sem, simprocAttr]
        refine leave_readA rfl rfl (by decide) ?_
        simp (maxSteps := 400000) only [readZ, readPV, zeroTest, hg, go_sem, simprocAttr]
end Abs
end Go.Proofs.YtbojkcmohgbpaaaGreatDoor
