/-
  LAWS: pure contracts, with arguments in the caller's own memory; weaker states.
-/
import Derived.Test.YtbojkcmohgbpaaaGreatDoorAbsEval
namespace Go.Proofs.YtbojkcmohgbpaaaGreatDoor
namespace Abs
variable {P : Program} {M0 : Nat → Prop}
inductive Flat : PV → Prop
  | bool (b : Bool) : Flat (.bool b)
  | int (k : IntKind) (n : Int) : Flat (.int k n)
  | str (s : ByteArray) : Flat (.str s)
  | agg {cs : List PV} (h : ∀ (i : Nat) (c : PV), cs[i]? = some c → Flat c) : Flat (.agg cs)
  | tuple {cs : List PV} (h : ∀ (i : Nat) (c : PV), cs[i]? = some c → Flat c) : Flat (.tuple cs)
  | nilslice : Flat .nilslice
  | nilptr : Flat .nilptr
  | nilfunc : Flat .nilfunc
  | iface {t : TypeId} {q : PV} (h : Flat q) : Flat (.iface t q)
  | niliface : Flat .niliface
  | any : Flat .any
theorem Flat.nil (i : Nat) (c : PV) (h : ([] : List PV)[i]? = some c) : Flat c := by simp at h
theorem Flat.cons {q : PV} {l : List PV} (hq : Flat q) (hl : ∀ (i : Nat) (c : PV), l[i]? = some c → Flat c) (i : Nat) (c : PV) (h : (q :: l)[i]? = some c) : Flat c := by
  cases i with
  | zero => cases h; exact hq
  | succ i => exact hl i c (by simpa using h)
theorem Flat.rep {q : PV} (hf : Flat q) {M M' : Nat → Prop} {w w' : World} {v : Value} (h : RepP M w v q) : RepP M' w' v q := by
  induction hf generalizing v with
  | bool b => cases h; exact .bool b
  | int k n => cases h; exact .int k n
  | str s => cases h; exact .str s
  | agg _ ih => cases h with | agg hn hs hr => exact .agg hn hs fun i c hi => ih i c hi (hr i c hi)
  | tuple _ ih => cases h with | tuple hn hr => exact .tuple hn fun i c hi => ih i c hi (hr i c hi)
  | nilslice => cases h; exact .nilslice
  | nilptr => cases h; exact .nilptr
  | nilfunc => cases h; exact .nilfunc
  | iface _ ih => cases h with | iface hr => exact .iface (ih hr)
  | niliface => cases h; exact .niliface
  | any => cases h; exact .any
def frzList (F : AV → Option PV) : List AV → Option (List PV)
  | [] => some []
  | a :: l => match F a, frzList F l with | some q, some r => some (q :: r) | _, _ => none
def frzRow (F : AV → Option PV) (ver : Nat) : Option AObj → Option (Nat × List PV)
  | some (.row sz xs) => if xs.length = ver then (frzList F xs).map fun l => (sz, l) else none
  | _ => none
def frzN : Nat → Heap → AV → Option PV
  | _, _, .p v => some v
  | 0, _, _ => none
  | n + 1, h, .ptr id ver i o => (frzRow (frzN n h) ver h[id]?).map fun q => .ptr q.1 q.2 i o
  | n + 1, h, .slice id ver off len => (frzRow (frzN n h) ver h[id]?).map fun q => .slice q.1 ((q.2.take (off + len)).drop off) false
  | n + 1, h, .func fn first cap => match frzList (frzN n h) first, frzList (frzN n h) cap with | some a, some b => some (.func fn a b) | _, _ => none
  | n + 1, h, .agg cs => (frzList (frzN n h) cs).map .agg
  | n + 1, h, .tuple cs => (frzList (frzN n h) cs).map .tuple
  | _, _, _ => none
def frz (h : Heap) (a : AV) : Option PV := frzN 8 h a
def frzL (h : Heap) (l : List AV) : Option (List PV) := frzList (frz h) l
theorem frzN_p (n : Nat) (h : Heap) (v : PV) : frzN n h (.p v) = some v := by cases n <;> rfl
theorem frzList_map {α : Type} {F : AV → Option PV} (hF : ∀ v, F (.p v) = some v) (f : α → PV) : ∀ l : List α, frzList F (l.map fun x => .p (f x)) = some (l.map f)
  | [] => rfl
  | x :: r => by rw [List.map_cons, frzList, frzList_map hF f r, hF]; rfl
theorem frzList_mapN {α : Type} (n : Nat) (h : Heap) (f : α → PV) (l : List α) : frzList (frzN n h) (l.map fun x => .p (f x)) = some (l.map f) := frzList_map (frzN_p n h) f l
theorem frzList_ok {F : AV → Option PV} : ∀ {l : List AV} {qs : List PV}, frzList F l = some qs → l.length = qs.length ∧ ∀ (i : Nat) (q : PV), qs[i]? = some q → ∃ a, l[i]? = some a ∧ F a = some q
  | [], qs, e => by cases e; exact ⟨rfl, by simp⟩
  | a :: l, qs, e => by
    unfold frzList at e
    split at e
    · rename_i q r h1 h2
      cases e
      obtain ⟨h3, h4⟩ := frzList_ok h2
      refine ⟨by simp [h3], fun i q' hi => ?_⟩
      cases i with
      | zero => cases hi; exact ⟨a, rfl, h1⟩
      | succ i => exact h4 i q' (by simpa using hi)
    · cases e
theorem frzRow_ok {F : AV → Option PV} {ver : Nat} {o : Option AObj} {q : Nat × List PV} (e : frzRow F ver o = some q) : ∃ xs, o = some (.row q.1 xs) ∧ xs.length = ver ∧ frzList F xs = some q.2 := by
  unfold frzRow at e
  split at e
  · rename_i sz xs
    split at e
    · rename_i hv
      simp only [Option.map_eq_some_iff] at e
      obtain ⟨l, h1, rfl⟩ := e
      exact ⟨xs, rfl, hv, h1⟩
    · cases e
  · cases e
theorem frzN_cell {n : Nat} {h : Heap} {a : AV} {q : PV} (ha : a.isCell = true) (e : frzN n h a = some q) : q.isCell = true := by
  cases a with
  | p v => rw [frzN_p] at e; cases e; exact ha
  | agg cs => cases ha
  | tuple cs => cases ha
  | undef => cases ha
  | ref k id => cases n <;> cases e
  | ptr id ver i o =>
    cases n with
    | zero => cases e
    | succ n =>
      unfold frzN at e
      simp only [Option.map_eq_some_iff] at e
      obtain ⟨q', _, rfl⟩ := e
      rfl
  | slice id ver off len =>
    cases n with
    | zero => cases e
    | succ n =>
      unfold frzN at e
      simp only [Option.map_eq_some_iff] at e
      obtain ⟨q', _, rfl⟩ := e
      rfl
  | func fn first cap =>
    cases n with
    | zero => cases e
    | succ n =>
      unfold frzN at e
      split at e
      · cases e; rfl
      · cases e
theorem pcells_cell {q : PV} (h : q.isCell = true) : q.cells = [q] := by cases q <;> first | rfl | cases h
theorem frzN_cells {n : Nat} {h : Heap} {a : AV} {q : PV} {cs : List AV} (e : frzN n h a = some q) (hc : a.cells = some cs) :
    q.cells.length = cs.length ∧ ∀ (j : Nat) (c : PV), q.cells[j]? = some c → ∃ x m, cs[j]? = some x ∧ m ≤ n ∧ frzN m h x = some c := by
  have single : a.isCell = true → cs = [a] → q.cells.length = cs.length ∧ ∀ (j : Nat) (c : PV), q.cells[j]? = some c → ∃ x m, cs[j]? = some x ∧ m ≤ n ∧ frzN m h x = some c := by
    intro ha hcs
    have hq := frzN_cell ha e
    rw [pcells_cell hq, hcs]
    refine ⟨rfl, fun j c hj => ?_⟩
    cases j with
    | zero => cases hj; exact ⟨a, n, rfl, Nat.le_refl _, e⟩
    | succ j => simp at hj
  cases a with
  | p v =>
    rw [frzN_p] at e; cases e
    have hcs : cs = q.cells.map .p := by
      cases q with
      | tuple l => simp [AV.cells] at hc
      | _ => (simp [AV.cells] at hc; exact hc.symm)
    subst hcs
    refine ⟨by simp, fun j c hj => ⟨.p c, n, by simp [hj], Nat.le_refl _, frzN_p _ _ _⟩⟩
  | agg l =>
    cases n with
    | zero => cases e
    | succ n =>
      unfold frzN at e
      simp only [Option.map_eq_some_iff] at e
      obtain ⟨qs, h1, rfl⟩ := e
      simp only [AV.cells, Option.some.injEq] at hc
      subst hc
      obtain ⟨h2, h3⟩ := frzList_ok h1
      refine ⟨h2.symm, fun j c hj => ?_⟩
      obtain ⟨x, h4, h5⟩ := h3 j c hj
      exact ⟨x, n, h4, by omega, h5⟩
  | tuple l => cases hc
  | undef => cases hc
  | ptr id ver i o => cases hc; exact single rfl rfl
  | slice id ver i o => cases hc; exact single rfl rfl
  | func fn a b => cases hc; exact single rfl rfl
  | ref k id => cases hc; exact single rfl rfl
theorem row_frz {S : Mem} (hS : HOk P M0 S) {n id sz b : Nat} {xs : List AV} {l : List PV} (ih : ∀ m, m ≤ n → ∀ (v : Value) (a : AV) (q : PV), Rep M0 S v a → frzN m S.h a = some q → RepP M0 S.w v q)
    (hid : S.h[id]? = some (.row sz xs)) (hm : S.m.getD id none = some b) (hl : frzList (frzN n S.h) xs = some l) :
    ∃ C T, S.w.heap[b]? = some (.cells C T (0, 0)) ∧ l.length = xs.length ∧ l.length * sz ≤ C.size ∧ (∀ x, x ∈ l → x.cells.length = sz ∧ ∀ c, c ∈ x.cells → c.isCell = true) ∧ ¬ M0 b ∧
      (∀ k, k < l.length * sz → S.w.cell? ⟨b, 0 + k, none⟩ = some (C.getD k undef)) ∧ ∀ (i j : Nat) (x c : PV), l[i]? = some x → x.cells[j]? = some c → RepP M0 S.w (C.getD (i * sz + j) undef) c := by
  obtain ⟨C, T, hb, hsize, hel⟩ := row_block hS hid hm
  obtain ⟨hxl, hfr⟩ := frzList_ok hl
  have helem : ∀ (i : Nat) (q : PV), l[i]? = some q → (q.cells.length = sz ∧ ∀ c, c ∈ q.cells → c.isCell = true) ∧ ∀ (j : Nat) (c : PV), q.cells[j]? = some c → RepP M0 S.w (C.getD (i * sz + j) undef) c := by
    intro i q hi
    obtain ⟨a, h0, hfa⟩ := hfr i q hi
    obtain ⟨cs, h1, h2, h3⟩ := hel i a h0
    obtain ⟨h4, h5⟩ := frzN_cells hfa h1
    refine ⟨⟨by omega, fun c hc => ?_⟩, fun j c hj => ?_⟩
    · obtain ⟨j, hj⟩ := List.getElem?_of_mem hc
      obtain ⟨x, m, h6, _, h8⟩ := h5 j c hj
      exact frzN_cell (h3 j x h6).1 h8
    · obtain ⟨x, m, h6, h7, h8⟩ := h5 j c hj
      exact ih m h7 _ x c (rep_of_S (h3 j x h6).1 (h3 j x h6).2) h8
  refine ⟨C, T, hb, hxl.symm, by rw [← hxl]; exact hsize, fun x hx => ?_, fun hm0 => (hS.m0 b hm0).2 (List.mem_of_getElem? (getD_some_get hm)), fun k hk => ?_, fun i j x c hx hj => (helem i x hx).2 j c hj⟩
  · obtain ⟨i, hi⟩ := List.getElem?_of_mem hx
    exact (helem i x hi).1
  · rw [Nat.zero_add]
    exact cell_block hb k (by rw [← hxl] at hk; omega)
theorem frzN_ok {S : Mem} (hS : HOk P M0 S) : ∀ (n : Nat) (v : Value) (a : AV) (q : PV), Rep M0 S v a → frzN n S.h a = some q → RepP M0 S.w v q := by
  intro n
  induction n using Nat.strongRecOn with
  | _ n ih =>
    intro v a q hr e
    cases a with
    | p v' => rw [frzN_p] at e; cases e; exact RepP.less (show RepP (Avoid M0 S.m) S.w v q from hr) fun b hb => .inl hb
    | ref k id => cases n <;> cases e
    | undef => cases n <;> cases e
    | ptr id ver i o =>
      cases n with
      | zero => cases e
      | succ n =>
        unfold frzN at e
        simp only [Option.map_eq_some_iff] at e
        obtain ⟨⟨sz, l⟩, h1, rfl⟩ := e
        obtain ⟨xs, hid, hv, hl⟩ := frzRow_ok h1
        obtain ⟨b, hm, rfl⟩ := live_row hr.2 hid hv
        obtain ⟨C, T, hb, h1, h2, h3, h4, h5, h6⟩ := row_frz hS (fun m hm => ih m (by omega)) hid hm hl
        exact .ptr (off := 0) (fun k => C.getD k undef) (by omega) h3 (fun _ => h4) h5 h6
    | slice id ver off len =>
      cases n with
      | zero => cases e
      | succ n =>
        unfold frzN at e
        simp only [Option.map_eq_some_iff] at e
        obtain ⟨⟨sz, l⟩, h1, rfl⟩ := e
        obtain ⟨xs, hid, hv, hl⟩ := frzRow_ok h1
        dsimp only at hid hl ⊢
        have hnil : len = 0 → (l.take (off + len)).drop off = [] := by
          intro e; subst e
          apply List.eq_nil_of_length_eq_zero
          simp
        rcases live_row hr.2 hid hv with ⟨h0, _, _, a, cap, rfl⟩ | ⟨b, cap, T', n', hm, rfl, ⟨h1, h2⟩, _, _⟩ | ⟨_, rfl, h0⟩
        · rw [hnil h0]; exact .empty (by simp)
        · obtain ⟨C, T, hb, h3, h4, h5, h6, h7, h8⟩ := row_frz hS (fun m hm => ih m (by omega)) hid hm hl
          have := pslice_sub (M := M0) (w := S.w) (b := b) (off := 0) (sz := sz) (l := off) (r := off + len) (xs := l) (fun k => C.getD k undef) (by omega) (by omega) h5 (fun _ => h6) h7 h8 (cap := cap) (full := false) (by omega) (by simp)
          simpa using this
        · rw [hnil h0]; exact .empty (by simp)
    | func fn first cap =>
      cases n with
      | zero => cases e
      | succ n =>
        obtain ⟨F, C, rfl, h1, h2⟩ := hr
        unfold frzN at e
        split at e
        · rename_i x y hx hy
          cases e
          obtain ⟨h3, h4⟩ := frzList_ok hx
          obtain ⟨h5, h6⟩ := frzList_ok hy
          refine .func (by rw [h1.1, h3]) (by rw [h2.1, h5]) (fun i c hi => ?_) fun i c hi => ?_
          · obtain ⟨a, h7, h8⟩ := h4 i c hi
            exact ih n (by omega) _ a c (rep_of_0 (h1.2 i a h7)) h8
          · obtain ⟨a, h7, h8⟩ := h6 i c hi
            exact ih n (by omega) _ a c (rep_of_0 (h2.2 i a h7)) h8
        · cases e
    | agg cs =>
      cases n with
      | zero => cases e
      | succ n =>
        obtain ⟨C, rfl, hc, h1, h2⟩ := hr
        unfold frzN at e
        simp only [Option.map_eq_some_iff] at e
        obtain ⟨l, hl, rfl⟩ := e
        obtain ⟨h3, h4⟩ := frzList_ok hl
        refine .agg (by omega) (fun c hcl => ?_) fun i c hi => ?_
        · obtain ⟨i, hi⟩ := List.getElem?_of_mem hcl
          obtain ⟨a, h5, h6⟩ := h4 i c hi
          exact frzN_cell (hc a (List.mem_of_getElem? h5)) h6
        · obtain ⟨a, h5, h6⟩ := h4 i c hi
          exact ih n (by omega) _ a c (rep_of_S (hc a (List.mem_of_getElem? h5)) (h2 i a h5)) h6
    | tuple cs =>
      cases n with
      | zero => cases e
      | succ n =>
        obtain ⟨C, rfl, h1, h2⟩ := hr
        unfold frzN at e
        simp only [Option.map_eq_some_iff] at e
        obtain ⟨l, hl, rfl⟩ := e
        obtain ⟨h3, h4⟩ := frzList_ok hl
        refine .tuple (by omega) fun i c hi => ?_
        obtain ⟨a, h5, h6⟩ := h4 i c hi
        exact ih n (by omega) _ a c (rep_of_A (h2 i a h5)) h6
theorem frz_ok {S : Mem} (hS : HOk P M0 S) {v : Value} {a : AV} {q : PV} (hr : Rep M0 S v a) (h : frz S.h a = some q) : RepP M0 S.w v q := frzN_ok hS 8 v a q hr h
theorem frzL_ok {h : Heap} {l : List AV} {qs : List PV} (e : frzL h l = some qs) : l.length = qs.length ∧ ∀ (i : Nat) (q : PV), qs[i]? = some q → ∃ a, l[i]? = some a ∧ frz h a = some q := frzList_ok e
theorem hcall_frz {f : FuncId} {args : List AV} {pargs : List PV} {v : PV} {h : Heap} (hc : PCall P f pargs v) (ha : frzL h args = some pargs) (hv : Flat v) : HCall P f args h (fun r h' => r = .ret (.p v) ∧ h' = h) := by
  intro M0 m w cargs hS hargs
  obtain ⟨hl, hg⟩ := frzL_ok ha
  have hpa : PArgs M0 w cargs pargs := by
    refine ⟨by rw [hargs.1, hl], fun i c hi => ?_⟩
    obtain ⟨a, h1, h2⟩ := hg i c hi
    exact frz_ok (S := ⟨m, h, w⟩) hS (hargs.2 i a h1) h2
  obtain ⟨h1, h2⟩ := hc M0 w cargs (fun b hb => (hS.m0 b hb).1) hS.gl.1 hpa
  refine ⟨h1, h2.mono fun e w' hh => ?_⟩
  obtain ⟨v', rfl, hr, hfr⟩ := hh
  obtain ⟨hk, hev⟩ := fr_nil_ok hS hfr
  exact ⟨.ret (.p v), _, m, ⟨rfl, rfl⟩, hev, hk, hv.rep hr⟩
theorem WF_frz {H : Hints} {ops : Array Oper} {rest : List Oper} {Q : Cont} {dst : Option Tmp} {A : AAct} {f : FuncId} {args : List AV} {pargs : List PV} {v : PV} (hc : PCall P f pargs v) (ha : frzL A.h args = some pargs) (hv : Flat v)
    (h : @WO ⟨P, H, ops, rest, Q⟩ (A.put dst (.p v) A.h)) : @WF ⟨P, H, ops, rest, Q, dst⟩ A f args := by
  refine (hcall_frz hc ha hv).mono fun r h' hr => ?_
  obtain ⟨rfl, rfl⟩ := hr
  exact h
end Abs
end Go.Proofs.YtbojkcmohgbpaaaGreatDoor
