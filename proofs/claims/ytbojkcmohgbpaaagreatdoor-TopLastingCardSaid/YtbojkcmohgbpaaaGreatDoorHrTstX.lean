/-
  CONTRACTS: what is wrong with a test, with a shop and tests: in the program and in the reference. No conditions but those in the theorems' heads.
  LAWS: builders of one's own: what is written into them, what they are read as. No conditions but those in the theorems' heads.
  LAWS: iterators with memory of their own that yield immutable values. No conditions but those in the theorems' heads.
-/
import Derived.Test.YtbojkcmohgbpaaaGreatDoorHrChk
import Derived.Test.YtbojkcmohgbpaaaGreatDoorAbsInvX
import Derived.Lib.UnsafeStr
namespace Go.Proofs.YtbojkcmohgbpaaaGreatDoor
namespace Abs
set_option linter.unusedSimpArgs false
set_option linter.unusedVariables false
set_option maxRecDepth 4000
def markIn (m : HrMark) : Bool := gIn m.minute 0 1000000 && gIn m.weight 0 10000000
def fallsGo : Int → List HrMark → Bool
  | _, [] => false
  | last, m :: r => decide (m.minute ≤ last) || fallsGo m.minute r
def hrTestErr (nk : Int) (t : HrTest) : Int :=
  if gIn t.kind 0 (nk - 1) = true then
    if gIn t.marks.length 2 10 = true then
      if gIn t.error 0 10000 = true then
        if t.marks.all markIn = true then (if fallsGo (-1) t.marks = true then 2 else 0) else 7
      else 7
    else 3
  else 4
theorem cHrCheckT (s : HrShop) (t : HrTest) (hs : s.kinds.length ≤ 1000) : PCall Tryz.prog 75 [s.pv, t.pv] (.int .i64 (hrTestErr s.kinds.length t)) := by
  refine pcall_of_wp draws (fn := Tryz.f75) (n := 57) (rs := [.tmp 4]) (by kernel_rfl) rfl rfl rfl ok75 (Nat.le_of_ble_eq_true rfl) ?_
  have hw : IntKind.i64.wrap ((s.kinds.length : Int) - 1) = (s.kinds.length : Int) - 1 := wrap_in (by omega) (by omega)
  simp (maxSteps := 400000) only [hw, go_sem, simprocAttr]
  refine WF_pure (cHrOut 0 _ [_] true (by simp)) rfl ?_
  simp (maxSteps := 400000) only [List.any_cons, List.any_nil, Bool.or_false, go_sem, simprocAttr]
  cases h1 : gIn t.kind 0 ((s.kinds.length : Int) - 1)
  · simp (maxSteps := 400000) only [hrTestErr, h1, go_sem, simprocAttr]
  simp (maxSteps := 400000) only [go_sem, simprocAttr]
  refine WF_pure (cHrOut 2 10 [_] true (by simp)) rfl ?_
  simp (maxSteps := 400000) only [List.any_cons, List.any_nil, Bool.or_false, go_sem, simprocAttr]
  cases h2 : gIn t.marks.length 2 10
  · simp (maxSteps := 400000) only [hrTestErr, h1, h2, go_sem, simprocAttr]
  simp (maxSteps := 400000) only [go_sem, simprocAttr]
  refine WF_pure (cHrOut 0 10000 [_] true (by simp)) rfl ?_
  simp (maxSteps := 400000) only [List.any_cons, List.any_nil, Bool.or_false, go_sem, simprocAttr]
  cases h3 : gIn t.error 0 10000
  · simp (maxSteps := 400000) only [hrTestErr, h1, h2, h3, go_sem, simprocAttr]
  have hspec : hrTestErr s.kinds.length t = if t.marks.all markIn = true then (if fallsGo (-1) t.marks = true then 2 else 0) else 7 := by simp only [hrTestErr, h1, h2, h3, if_true]
  rw [hspec]
  have hlm : t.marks.length ≤ 10 := by simp [gIn] at h2; omega
  simp (maxSteps := 400000) only [go_sem, simprocAttr]
  refine W_rangeA [30, 31] t.marks (by omega) (τ := Int × Bool) (fun done rest q => t.marks.all markIn = rest.all markIn ∧ fallsGo (-1) t.marks = (q.2 || fallsGo q.1 rest))
    (fun done q => [(32, .p (.int .i64 done.length)), (5, .p (.int .i64 q.1)), (6, .p (.bool q.2))]) (fun _ _ => [.row 3 [.p s.pv], .row 3 [.p t.pv]]) (-1, false) ⟨rfl, by simp⟩ ?_ ?_ ?_
  · simp (maxSteps := 400000) only [go_sem, simprocAttr] <;> simp
  · rintro ⟨last, falls⟩ ⟨e2, e3⟩
    dsimp only at e2 e3
    rw [e2, e3]
    cases falls
    · simp (maxSteps := 400000) only [List.all_nil, fallsGo, go_sem, simprocAttr]
    · simp (maxSteps := 400000) only [List.all_nil, fallsGo, go_sem, simprocAttr]
  · rintro done x r ⟨last, falls⟩ e1 ⟨e2, e3⟩ hx hlt hnx
    dsimp only at e2 e3
    rw [List.all_cons] at e2
    simp (maxSteps := 400000) only [hlt, hx, go_sem, simprocAttr]
    refine WF_pure (cHrOut 0 1000000 [_] true (by simp)) rfl ?_
    simp (maxSteps := 400000) only [List.any_cons, List.any_nil, Bool.or_false, go_sem, simprocAttr]
    cases h4 : gIn x.minute 0 1000000
    · rw [e2, markIn, h4]
      simp (maxSteps := 400000) only [go_sem, simprocAttr]
    simp (maxSteps := 400000) only [go_sem, simprocAttr]
    refine WF_pure (cHrOut 0 10000000 [_] true (by simp)) rfl ?_
    simp (maxSteps := 400000) only [List.any_cons, List.any_nil, Bool.or_false, go_sem, simprocAttr]
    cases h5 : gIn x.weight 0 10000000
    · rw [e2, markIn, h4, h5]
      simp (maxSteps := 400000) only [go_sem, simprocAttr]
    have hm : markIn x = true := by rw [markIn, h4, h5]; rfl
    cases falls
    · simp (maxSteps := 400000) only [go_sem, simprocAttr]
      refine WQ_next e1 (x.minute, decide (x.minute ≤ last)) ⟨by rw [e2, hm]; rfl, by rw [e3, fallsGo]; rfl⟩ ?_
      simp (maxSteps := 400000) only [hnx, go_sem, simprocAttr]
    · simp (maxSteps := 400000) only [go_sem, simprocAttr]
      refine WQ_next e1 (x.minute, true) ⟨by rw [e2, hm]; rfl, by rw [e3]; rfl⟩ ?_
      simp (maxSteps := 400000) only [hnx, go_sem, simprocAttr]
def testsErr (nk : Int) : List HrTest → Int
  | [] => 0
  | t :: r => if hrTestErr nk t = 0 then testsErr nk r else hrTestErr nk t
def hrOpen (s : HrShop) (l : List HrTest) : Int := if (hrCheck s).2.2 = 0 then testsErr s.kinds.length l else (hrCheck s).2.2
theorem hrCheck_kinds {s : HrShop} (h : (hrCheck s).2.2 = 0) : s.kinds.length ≤ 6 ∧ s.rules.length ≤ 6 ∧ 1 ≤ s.kinds.length := by
  unfold hrCheck at h
  split at h
  · rename_i hc
    simp [gIn] at hc
    omega
  · cases h
theorem cHrOpen (s : HrShop) (l : List HrTest) (b : Bool) (hl : (hrCheck s).2.2 = 0 → l.length < 1000000000) : PCall Tryz.prog 53 [s.pv, .slice 3 (l.map HrTest.pv) b] (.int .i64 (hrOpen s l)) := by
  refine pcall_of_wp draws (fn := Tryz.f53) (n := 33) (rs := [.tmp 4]) (by kernel_rfl) rfl rfl rfl ok53 (Nat.le_of_ble_eq_true rfl) ?_
  simp (maxSteps := 400000) only [go_sem, simprocAttr]
  refine WF_pure (cHrCheck s) rfl ?_
  simp (maxSteps := 400000) only [triple, go_sem, simprocAttr]
  cases h0 : ((hrCheck s).2.2 != 0)
  rotate_left
  · have h0' : ¬ (hrCheck s).2.2 = 0 := by simpa using h0
    simp (maxSteps := 400000) only [hrOpen, if_neg h0', go_sem, simprocAttr]
  have h0' : (hrCheck s).2.2 = 0 := by simpa using h0
  have hk := (hrCheck_kinds h0').1
  rw [hrOpen, if_pos h0']
  simp (maxSteps := 400000) only [go_sem, simprocAttr]
  refine W_rangeA [2, 20, 21] l (hl h0') (τ := Unit) (fun done rest _ => testsErr s.kinds.length l = testsErr s.kinds.length rest)
    (fun done _ => [(22, .p (.int .i64 done.length))]) (fun _ _ => [.row 3 [.p s.pv]]) () rfl ?_ ?_ ?_
  · simp (maxSteps := 400000) only [go_sem, simprocAttr] <;> simp
  · intro _ e2
    rw [e2]
    simp (maxSteps := 400000) only [testsErr, go_sem, simprocAttr]
  · intro done x r _ e1 e2 hx hlt hnx
    rw [testsErr] at e2
    simp (maxSteps := 400000) only [hlt, hx, go_sem, simprocAttr]
    refine WF_pure (cHrCheckT s x (by omega)) rfl ?_
    simp (maxSteps := 400000) only [go_sem, simprocAttr]
    cases h1 : (hrTestErr s.kinds.length x != 0)
    · have h1' : hrTestErr s.kinds.length x = 0 := by simpa using h1
      simp (maxSteps := 400000) only [go_sem, simprocAttr]
      refine WQ_next e1 () (by rw [e2, if_pos h1']) ?_
      simp (maxSteps := 400000) only [hnx, go_sem, simprocAttr]
    · have h1' : ¬ hrTestErr s.kinds.length x = 0 := by simpa using h1
      simp (maxSteps := 400000) only [e2, if_neg h1', go_sem, simprocAttr]
def hrTests (s : HrShop) (l : List HrTest) : Int := if (hrCheck s).2.2 = 0 then (if 8 < l.length then 3 else testsErr s.kinds.length l) else (hrCheck s).2.2
end Abs
end Go.Proofs.YtbojkcmohgbpaaaGreatDoor
namespace Go.Proofs.YtbojkcmohgbpaaaGreatDoor
namespace Abs
variable {P : Program} {M0 : Nat → Prop}
structure OnlyB (b : Nat) (w w' : World) : Prop where
  os : w'.os = w.os
  tape : w'.tape = w.tape
  output : w'.output = w.output
  size : w'.heap.size = w.heap.size
  block : ∀ k, k ≠ b → w'.heap[k]? = w.heap[k]?
theorem OnlyB.refl (b : Nat) (w : World) : OnlyB b w w := ⟨rfl, rfl, rfl, rfl, fun _ _ => rfl⟩
theorem onlyB_setCell (w : World) (b i : Nat) (v : Value) : OnlyB b w (w.setCell ⟨b, i, none⟩ v) :=
  ⟨rfl, rfl, rfl, by simp [World.setCell], fun k hk => Go.RowKit.Below.heap_setCell _ _ _ _ hk⟩
theorem bld_ok {S : Mem} (hS : HOk P M0 S) {i b : Nat} {T e : TypeId} {x x' : AV} {p p' v v' : Value} {w' : World} (hid : S.h[i]? = some (.bld T e x)) (hm : S.m.getD i none = some b)
    (hb : S.w.heap[b]? = some (.cells #[p, v] T (0, 0))) (hw : OnlyB b S.w w') (hb' : w'.heap[b]? = some (.cells #[p', v'] T (0, 0))) (hp : p' = .pointer none ∨ p' = .pointer (some ⟨b, 0, none⟩))
    (hx : x' = .p .nilslice ∨ ∃ j n, x' = .slice j n 0 n) (hr : Rep0 M0 S v' x') (hs : ∀ a n c, v' = .slice (some a) n c → ∃ N, S.w.shape? a.block = some (e, N)) :
    HOk P M0 ⟨S.m, S.h.set i (.bld T e x'), w'⟩ ∧ Ev S.h.length S ⟨S.m, S.h.set i (.bld T e x'), w'⟩ := by
  have hidlt := (List.getElem?_eq_some_iff.1 hid).1
  have hown : Own S.m b := List.mem_of_getElem? (getD_some_get hm)
  have hsh : ∀ c, w'.shape? c = S.w.shape? c := by
    intro c
    by_cases hc : c = b
    · subst hc
      simp [World.shape?, hb, hb']
    · simp only [World.shape?, hw.block c hc]
  have he : Ev S.h.length S ⟨S.m, S.h.set i (.bld T e x'), w'⟩ :=
    { fr := ⟨hw.os, hw.tape, hw.output, Nat.le_of_eq hw.size.symm, fun c _ hn => hw.block c (fun h => hn (h ▸ hown)), fun c _ => hsh c⟩
      sub := fun c h => .inl h
      obj := fun y oy hy hoy => by
        by_cases hyi : y = i
        · subst hyi
          rw [hid] at hoy; cases hoy
          exact ⟨.bld T e x', by simp [hidlt], .inr (.inr ⟨by simp [AObj.tag], rfl, rfl⟩)⟩
        · exact ⟨oy, by simp [List.getElem?_set_ne (Ne.symm hyi), hoy], ObjEv.refl _ _⟩ }
  refine ⟨?_, he⟩
  exact
    { len := by simpa using hS.len
      lt := fun c h => Nat.lt_of_lt_of_le (hS.lt c h) he.fr.size
      m0 := fun c h => ⟨Nat.lt_of_lt_of_le (hS.m0 c h).1 he.fr.size, (hS.m0 c h).2⟩
      inj := hS.inj
      gl := he.glob hS.gl
      obj := fun y oy hoy => by
        by_cases hyi : y = i
        · subst hyi
          have hoy' : (S.h.set y (.bld T e x'))[y]? = some oy := hoy
          rw [List.getElem?_set_self hidlt] at hoy'
          cases hoy'
          exact ⟨b, p', v', hm, hb', hp, hx, he.rep0 hr (rep0_below hr), fun a n c hv => let ⟨N, hN⟩ := hs a n c hv; ⟨N, (hsh _).trans hN⟩⟩
        · have hoy' : (S.h.set i (.bld T e x'))[y]? = some oy := hoy
          rw [List.getElem?_set_ne (Ne.symm hyi)] at hoy'
          refine (hS.obj y oy hoy').keep he fun c hc => hw.block c fun h => hyi ?_
          subst h
          exact hS.inj y i c (getD_some_get hc) (getD_some_get hm) }
theorem same_set {h : Heap} {i : Nat} {o : AObj} (hid : h[i]? = some o) : h.set i o = h := set_same hid
theorem append_shape {S : Mem} (hS : HOk P M0 S) {T U e ty : TypeId} {x : AV} {v v2 : Value} {s : ByteArray} {w2 : World} (hx : x = .p .nilslice ∨ ∃ j n xs, x = .slice j n 0 n ∧ S.h[j]? = some (.row 1 xs) ∧ xs.length = n ∧ n + s.size ≤ room)
    (hs0 : s.size ≤ room) (hr : Rep0 M0 S v x) (hT : sliceT P T = some e) (hU : isStringT P U = true) (hsz : sizeT P e = some 1) (hby : bytesT P e = some 1) (hz : hasZero P e 1 = true)
    (hsh : ∀ a n c, v = .slice (some a) n c → ∃ N, S.w.shape? a.block = some (e, N)) (hrun : (Builtin.append_ #[T, U] ty #[v, .string s]).run P S.w = .ok v2 w2) (hev : ∀ b, b < S.w.heap.size → w2.shape? b = S.w.shape? b) :
    ∀ a n c, v2 = .slice (some a) n c → ∃ N, w2.shape? a.block = some (e, N) := by
  have hTu := sliceT_some hT
  have hUu : (∃ f, P.underlying U = some (.slice f)) ∨ P.underlying U = some .string := .inr (isStringT_some hU)
  have hstr : Rep M0 S (.string s) (.p (.str s)) := RepP.str s
  obtain ⟨D, hlen, hD, hDs, hDel⟩ := elemsOf_ok (P := P) hS (y := .p (.str s)) (sz := 1) (ys := s.data.toList.map fun b : UInt8 => AV.p (PV.int .u8 (b.toNat : Int))) hstr (by unfold aElemsOf; exact if_pos rfl)
  have hyl : (s.data.toList.map fun b : UInt8 => AV.p (PV.int .u8 (b.toNat : Int))).length = s.size := by rw [List.length_map]; exact Array.length_toList
  rw [hyl] at hlen hD hDs
  have key : ∀ (base : Option Addr) (n cap : Nat) (O : Array Value), n + s.size ≤ room → cap < n + s.size → v = .slice base n cap → (Builtin.firstCells 1 n (.slice base n cap)).run P S.w.drew = .ok O S.w.drew →
      ∀ a n c, v2 = .slice (some a) n c → ∃ N, w2.shape? a.block = some (e, N) := by
    intro base n cap O hroom hlt hv hO a n' c hv2
    subst hv
    obtain ⟨nc, R, hnc, hR, hrun2⟩ := run_append_grow (ty := ty) hTu hUu hsz hby (by omega) hz hroom hlt S.w hlen hO (hD _ rfl)
    rw [hrun2] at hrun
    cases hrun
    cases hv2
    refine ⟨(O ++ D ++ R).size, ?_⟩
    show (S.w.drew.alloc _).shape? S.w.drew.heap.size = _
    unfold World.shape?
    rw [heap_alloc_eq]
  have nil : v = .slice none 0 0 → ∀ a n c, v2 = .slice (some a) n c → ∃ N, w2.shape? a.block = some (e, N) := by
    intro hv
    rcases Nat.eq_zero_or_pos s.size with h0 | h0
    · subst hv
      intro a n c hv2
      have := run_append_nil (ty := ty) hTu hUu hsz S.w (by rw [hlen, h0]) (by have := hD S.w rfl; rw [h0] at this; exact this)
      rw [this] at hrun
      cases hrun
      cases hv2
    · exact key none 0 0 #[] (by omega) (by omega) hv rfl
  rcases hx with rfl | ⟨j, n, xs, rfl, hj, hn, hroom⟩
  · have h' : RepP (Avoid M0 S.m) S.w v .nilslice := hr
    cases h'
    exact nil rfl
  · obtain ⟨O, hlo, hO, hOs, hOel⟩ := elemsOf_ok (P := P) (y := .slice j n 0 n) (v := v) (ys := xs) (sz := 1) hS hr (by simp [aElemsOf, hj, hn, sub, List.take_of_length_le (Nat.le_of_eq hn)])
    rcases live_row hr.2 hj hn with ⟨h1, h2, h3, _⟩ | ⟨b, cap, T', N, hm, rfl, hcap, hsh2, hfit, hreach⟩ | ⟨_, rfl, h0⟩
    · omega
    · rcases Nat.lt_or_ge cap (n + s.size) with hlt | hge
      · have := hO S.w.drew rfl
        rw [hn] at this
        exact key _ n cap O hroom hlt rfl (by simpa using this)
      · obtain ⟨C, T2, hb2, hsize2, hel2⟩ := row_block hS hj hm
        have hNC : N = C.size := by
          unfold World.shape? at hsh2
          rw [hb2] at hsh2
          simp at hsh2
          exact hsh2.2.symm
        have hrun2 := run_append_room (ty := ty) (cap := cap) hTu hUu hsz hge S.w hlen (hD _ rfl) (by simpa using hb2) (by rw [hDs]; omega) (elems_one hyl (by rw [hDs]) hDel)
        have hv : (Value.slice (some ⟨b, 0 * 1, none⟩) n cap) = .slice (some ⟨b, 0, none⟩) n cap := by rw [Nat.zero_mul]
        rw [hv, hrun2] at hrun
        intro a n' c hv2
        cases hrun
        cases hv2
        obtain ⟨N', hN'⟩ := hsh _ _ _ rfl
        exact ⟨N', (hev _ (shape_lt hN')).trans hN'⟩
    · subst h0
      exact nil rfl
end Abs
end Go.Proofs.YtbojkcmohgbpaaaGreatDoor
namespace Go.Proofs.YtbojkcmohgbpaaaGreatDoor
namespace Abs
variable {P : Program} {H : Hints} {Q : Cont}
def IterX (P : Program) (fv : PV) (n : Nat) (l : List (List PV)) : Prop :=
  (∀ a, a ∈ l → a.length = n) ∧ ∃ (g : FuncId) (first cap : List PV), fv = .func (.func g) first cap ∧ ∀ (id : Nat) (Inv : Nat → Heap → Prop) (Fin : Heap → Prop) (h0 : Heap), id < h0.length →
    (∀ (k : Nat) (xs : List PV) (lo mid : Heap), l[k]? = some xs → Inv k lo → lo.length = h0.length →
      HYld P id (xs.map .p) (lo ++ mid) (fun r h' => ∃ lo' ext, h' = lo' ++ mid ++ ext ∧ lo'.length = h0.length ∧
        ((r = .ret (.p (.bool true)) ∧ Inv (k + 1) lo') ∨ (r = .ret (.p (.bool false)) ∧ Fin lo')))) →
    Inv 0 h0 → HCall P g (first.map .p ++ [.ref .yl id] ++ cap.map .p) h0 (fun r h' => r = .ret (.p (.tuple [])) ∧ ∃ lo mid, h' = lo ++ mid ∧ lo.length = h0.length ∧ (Inv l.length lo ∨ Fin lo))
theorem W_iterX {ps : Array Tmp} {assign body : Code} {g : Operand} {A : AAct} {fv : PV} {l : List (List PV)} (Inv : AObj → Nat → Heap → Prop) (Fin : Code → Heap → Prop)
    (hrc : A.rc = .no) (hg : A.eval g = .p fv) (hit : IterX P fv ps.size l) (hD : DrawLaw P) (hps : paramsOk A.n ps = true) (hoka : okCode H A.n assign = true) (hokb : okCode H A.n body = true)
    (hat : ∀ o k h, Inv o k h → h[A.h.length + 1]? = some o) (h0 : ∀ o, Inv o 0 (A.h ++ [.dblock, o]))
    (hround : ∀ (oR oB : AObj) (oD : Code → AObj) (k : Nat) (xs : List PV) (lo mid : Heap), l[k]? = some xs → Inv oR k lo → lo.length = A.h.length + 2 →
      @W ⟨P, H, assign, assignO oR oB (A.h.length + 1) (lo ++ mid).length (fun B => wp P H body (roundO oB oR oD (A.h.length + 1) (lo ++ mid).length
        (fun r h' => ∃ lo' ext, h' = lo' ++ mid ++ ext ∧ lo'.length = A.h.length + 2 ∧ ((r = .ret (.p (.bool true)) ∧ Inv oR (k + 1) lo') ∨ (r = .ret (.p (.bool false)) ∧ ∃ c, Fin c lo' ∧ lo'[A.h.length + 1]? = some (oD c))))) B)⟩
        { n := A.n, bs := (lo ++ mid).length, rc := .rnd, tmps := putParams A.tmps ps.toList (xs.map .p), h := lo ++ mid, df := [] })
    (hend : ∀ o lo mid, Inv o l.length lo → lo.length = A.h.length + 2 → @WQ ⟨Q⟩ .normal { A with h := (lo ++ mid).set (A.h.length + 1) .dead, df := .collected A.h.length :: A.df })
    (hfin : ∀ c lo mid, Fin c lo → lo.length = A.h.length + 2 → jumpTo Q { A with h := (lo ++ mid).set (A.h.length + 1) .dead, df := .collected A.h.length :: A.df } c) : @W ⟨P, H, .rangeFunc g ps assign body, Q⟩ A := by
  obtain ⟨hn, gf, first, cap, rfl, hi⟩ := hit
  have hoR : ∃ oR, oR = AObj.loop A.n A.tmps ps assign body .ready none := ⟨_, rfl⟩
  obtain ⟨oR, hR⟩ := hoR
  refine W_range (f := gf) (args := first.map .p ++ [.ref .yl (A.h.length + 1)] ++ cap.map .p)
    (R := fun r h => r = .ret (.p (.tuple [])) ∧ ∃ lo mid, h = lo ++ mid ∧ lo.length = A.h.length + 2 ∧ (Inv oR l.length lo ∨ ∃ c, Fin c lo ∧ lo[A.h.length + 1]? = some (.loop A.n A.tmps ps assign body .done (some c))))
    hrc (by rw [hg]; rfl) ?_ (fun v h hr => ?_) fun v h hr => (by cases hr.1)
  · rw [← hR]
    have hl2 : (A.h ++ [.dblock, oR]).length = A.h.length + 2 := by simp
    have key := hi (A.h.length + 1) (Inv oR) (fun lo => ∃ c, Fin c lo ∧ lo[A.h.length + 1]? = some (.loop A.n A.tmps ps assign body .done (some c))) (A.h ++ [.dblock, oR]) (by simp) (fun k xs lo mid hv hI hlo => ?_) (h0 oR)
    · rw [hl2] at key
      exact key
    rw [hl2] at hlo ⊢
    have hat' := hat _ _ _ hI
    have hat2 : (lo ++ mid)[A.h.length + 1]? = some oR := by rw [List.getElem?_append_left (by omega)]; exact hat'
    rw [hR] at hat2
    refine hyld_of_wp hD (H := H) hat2 hps (by rw [List.length_map]; exact (hn xs (List.mem_of_getElem? hv)).symm) hoka hokb ?_
    have := hround oR (.loop A.n A.tmps ps assign body .busy none) (fun j => .loop A.n A.tmps ps assign body .done (some j)) k xs lo mid hv hI hlo
    refine wp_mono assign (fun e B hB => ?_) this
    cases e with
    | normal =>
      obtain ⟨b1, b2, b3⟩ := hB
      rw [hR] at b2
      refine ⟨b1, b2, wp_mono body (fun e C hC => ?_) b3⟩
      cases e with
      | normal =>
        obtain ⟨c1, c2, c3⟩ := hC
        refine ⟨c1, ⟨_, _, c2⟩, ?_⟩
        rw [← hR]
        obtain ⟨lo', ext, d1, d2, d3⟩ := c3
        refine ⟨lo', ext, d1, d2, ?_⟩
        rcases d3 with d3 | ⟨d3, _⟩
        · exact .inl d3
        · cases d3
      | exit id =>
        obtain ⟨c1, c2, c3⟩ := hC
        refine ⟨c1, ⟨_, _, c2⟩, ?_⟩
        obtain ⟨lo', ext, d1, d2, d3⟩ := c3
        refine ⟨lo', ext, d1, d2, ?_⟩
        rcases d3 with ⟨d3, _⟩ | ⟨d3, c, f1, f2⟩
        · cases d3
        · exact .inr ⟨rfl, c, f1, f2⟩
      | ret =>
        obtain ⟨c1, c2, c3⟩ := hC
        refine ⟨c1, ⟨_, _, c2⟩, ?_⟩
        obtain ⟨lo', ext, d1, d2, d3⟩ := c3
        refine ⟨lo', ext, d1, d2, ?_⟩
        rcases d3 with ⟨d3, _⟩ | ⟨d3, c, f1, f2⟩
        · cases d3
        · exact .inr ⟨rfl, c, f1, f2⟩
      | panic v =>
        obtain ⟨_, _, c3⟩ := hC
        obtain ⟨lo', ext, d1, d2, d3⟩ := c3
        rcases d3 with ⟨d3, _⟩ | ⟨d3, _⟩ <;> cases d3
    | exit id => exact hB
    | ret => exact hB
    | panic v => exact hB
  · obtain ⟨hr, lo, mid, rfl, hlo, hI⟩ := hr
    rcases hI with hI | ⟨c, f1, f2⟩
    · have hat' : (lo ++ mid)[A.h.length + 1]? = some oR := by rw [List.getElem?_append_left (by omega)]; exact hat _ _ _ hI
      rw [hR] at hat'
      rw [hat']
      exact ⟨by simp, hend _ _ _ hI hlo⟩
    · have hat' : (lo ++ mid)[A.h.length + 1]? = some (.loop A.n A.tmps ps assign body .done (some c)) := by rw [List.getElem?_append_left (by omega)]; exact f2
      rw [hat']
      have := hfin c lo mid f1 hlo
      refine ⟨by simp, ?_⟩
      cases c <;> first | exact this.elim | exact this
theorem hap_gg {lo : Heap} {n0 : Nat} (h : lo.length = n0) (t : Heap) (j : Nat) : (lo ++ t)[n0 + j]? = t[j]? := by rw [List.getElem?_append_right (by omega)]; congr 1; omega
theorem hap_g0 {lo : Heap} {n0 : Nat} (h : lo.length = n0) (t : Heap) : (lo ++ t)[n0]? = t[0]? := hap_gg h t 0
theorem hap_ss {lo : Heap} {n0 : Nat} (h : lo.length = n0) (t : Heap) (j : Nat) (x : AObj) : (lo ++ t).set (n0 + j) x = lo ++ t.set j x := by
  rw [List.set_append_right _ _ (by omega)]; congr 2; omega
theorem hap_s0 {lo : Heap} {n0 : Nat} (h : lo.length = n0) (t : Heap) (x : AObj) : (lo ++ t).set n0 x = lo ++ t.set 0 x := hap_ss h t 0 x
end Abs
end Go.Proofs.YtbojkcmohgbpaaaGreatDoor
