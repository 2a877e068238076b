/-
  LAWS: heads of loops: what is kept, what is written; loops over functions; calls, by what is known of them; deferred calls.
-/
import Derived.Test.YthekmbikolpmlaaAbsRnd
namespace Go.Proofs.Ythekmbikolpmlaa
namespace Abs
variable {P : Program} {H : Hints} {Q : Cont}

/-- what temporaries hold -/
def keepA (T : Nat → AV) : List Nat → List (Nat × AV) → List (Nat × AV)
  | [], l => l
  | t :: r, l => (t, T t) :: keepA T r l
theorem keepA_nil (T : Nat → AV) (l : List (Nat × AV)) : keepA T [] l = l := rfl
theorem keepA_cons (T : Nat → AV) (t : Nat) (r : List Nat) (l : List (Nat × AV)) : keepA T (t :: r) l = (t, T t) :: keepA T r l := rfl
def headI (A : AAct) (live : List Nat) (l : List (Nat × AV)) (h : Heap) : AAct := { A with tmps := keepT (keepA A.tmps live l), h := h }
/-- what is asked at a head -/
def headOk (bs : Nat) (df : List ADef) (T : Nat → AV) (h0 : Heap) (l : List (Nat × AV)) (h : Heap) : Prop :=
  bs ≤ h.length ∧ h0.take h.length = h ∧ (∀ p, p ∈ l → T p.1 = p.2 ∧ below h.length p.2) ∧ (∀ o, o ∈ h → objBelow h.length o) ∧ ∀ x, x ∈ df → defBelow h.length x
theorem weak_headI {A B : AAct} {live : List Nat} {l : List (Nat × AV)} {h : Heap} (hn : B.n = A.n) (hb : B.bs = A.bs) (hr : B.rc = A.rc) (hd : B.df = A.df)
    (hk : headOk A.bs A.df B.tmps B.h (keepA A.tmps live l) h) : Weak P B (headI A live l h) := by
  obtain ⟨h1, h2, h3, h4, h5⟩ := hk
  have hlen : h.length ≤ B.h.length := by
    have : (B.h.take h.length).length = h.length := by rw [h2]
    simp only [List.length_take] at this
    omega
  have e : headI A live l h = { B with tmps := keepT (keepA A.tmps live l), h := B.h.take h.length } := by
    unfold headI
    rw [h2]
    cases A; cases B
    simp only at hn hb hr hd
    subst hn hb hr hd
    rfl
  rw [e]
  refine weak_cut h.length (by rw [hb]; exact h1) hlen (fun t => ?_) (fun id o hid ho => ?_) (by rw [hd]; exact h5)
  · rcases keepT_at (keepA A.tmps live l) t with h6 | h6
    · exact .inr h6
    · have := h3 _ h6
      exact .inl ⟨this.1.symm, by rw [this.1]; exact this.2⟩
  · refine h4 o ?_
    rw [← h2]
    exact List.mem_of_getElem? (i := id) (by rw [List.getElem?_take, if_pos hid]; exact ho)

/-- A LOOP, BY ITS STATES: 'live' are the temporaries that it reads and does not write, 'M' those that it writes -/
theorem W_loopA {σ : Type} {x : Code} {A : AAct} (live : List Nat) (V : σ → Prop) (μ : σ → Nat) (M : σ → List (Nat × AV)) (hp : σ → Heap) (s0 : σ) (hv : V s0)
    (h0 : headOk A.bs A.df A.tmps A.h (keepA A.tmps live (M s0)) (hp s0))
    (hs : ∀ s, V s → @W ⟨P, H, x, seqK (headK P V (fun s => headI A live (M s) (hp s)) μ s) Q⟩ { n := A.n, bs := A.bs, rc := A.rc, tmps := keepT (keepA A.tmps live (M s)), h := hp s, df := A.df }) :
    @W ⟨P, H, .loop x, Q⟩ A :=
  W_loop V (fun s => headI A live (M s) (hp s)) μ s0 hv (weak_headI rfl rfl rfl rfl h0) hs
/-- memory stays -/
theorem W_loopH {σ : Type} {x : Code} {A : AAct} (live : List Nat) (V : σ → Prop) (μ : σ → Nat) (M : σ → List (Nat × AV)) (s0 : σ) (hv : V s0)
    (h0 : headOk A.bs A.df A.tmps A.h (keepA A.tmps live (M s0)) A.h)
    (hs : ∀ s, V s → @W ⟨P, H, x, seqK (headK P V (fun s => headI A live (M s) A.h) μ s) Q⟩ { n := A.n, bs := A.bs, rc := A.rc, tmps := keepT (keepA A.tmps live (M s)), h := A.h, df := A.df }) :
    @W ⟨P, H, .loop x, Q⟩ A := W_loopA live V μ M (fun _ => A.h) s0 hv h0 hs
theorem WQ_headA {σ : Type} {V : σ → Prop} {μ : σ → Nat} {M : σ → List (Nat × AV)} {hp : σ → Heap} {live : List Nat} {s : σ} {A B : AAct} (s' : σ) (h1 : V s') (h2 : μ s' < μ s)
    (h3 : headOk A.bs A.df B.tmps B.h (keepA A.tmps live (M s')) (hp s')) (hn : B.n = A.n := by rfl) (hb : B.bs = A.bs := by rfl) (hr : B.rc = A.rc := by rfl) (hd : B.df = A.df := by rfl) :
    @WQ ⟨seqK (headK P V (fun s => headI A live (M s) (hp s)) μ s) Q⟩ .normal B := ⟨s', h1, h2, weak_headI hn hb hr hd h3⟩

section
variable (n : Nat)
theorem below_p (v : PV) : below n (.p v) = True := rfl
theorem below_ptr (id ver i o : Nat) : below n (.ptr id ver i o) = (id < n) := rfl
theorem below_slice (id ver i o : Nat) : below n (.slice id ver i o) = (id < n) := rfl
theorem below_ref (k : RK) (id : Nat) : below n (.ref k id) = (id < n) := rfl
theorem below_undef : below n .undef = True := rfl
theorem below_func (f : Fn) (a c : List AV) : below n (.func f a c) = ((∀ x, x ∈ a → below0 n x) ∧ ∀ x, x ∈ c → below0 n x) := rfl
theorem below_agg (cs : List AV) : below n (.agg cs) = ∀ x, x ∈ cs → belowS n x := rfl
theorem below_tuple (cs : List AV) : below n (.tuple cs) = ∀ x, x ∈ cs → belowA n x := rfl
theorem belowA_p (v : PV) : belowA n (.p v) = True := rfl
theorem belowA_ptr (id ver i o : Nat) : belowA n (.ptr id ver i o) = (id < n) := rfl
theorem belowA_slice (id ver i o : Nat) : belowA n (.slice id ver i o) = (id < n) := rfl
theorem belowA_func (f : Fn) (a c : List AV) : belowA n (.func f a c) = ((∀ x, x ∈ a → below0 n x) ∧ ∀ x, x ∈ c → below0 n x) := rfl
theorem belowA_agg (cs : List AV) : belowA n (.agg cs) = ∀ x, x ∈ cs → belowS n x := rfl
theorem belowS_p (v : PV) : belowS n (.p v) = True := rfl
theorem belowS_ptr (id ver i o : Nat) : belowS n (.ptr id ver i o) = (id < n) := rfl
theorem belowS_slice (id ver i o : Nat) : belowS n (.slice id ver i o) = (id < n) := rfl
theorem belowS_func (f : Fn) (a c : List AV) : belowS n (.func f a c) = ((∀ x, x ∈ a → below0 n x) ∧ ∀ x, x ∈ c → below0 n x) := rfl
theorem below0_p (v : PV) : below0 n (.p v) = True := rfl
theorem below0_ptr (id ver i o : Nat) : below0 n (.ptr id ver i o) = (id < n) := rfl
theorem below0_slice (id ver i o : Nat) : below0 n (.slice id ver i o) = (id < n) := rfl
theorem objBelow_row (sz : Nat) (xs : List AV) : objBelow n (.row sz xs) = ∀ x, x ∈ xs → below n x := rfl
theorem objBelow_iter (s : ByteArray) (p : Nat) : objBelow n (.strIter s p) = True := rfl
theorem objBelow_dead : objBelow n .dead = True := rfl
theorem objBelow_dblock : objBelow n .dblock = True := rfl
theorem objBelow_loop (k : Nat) (T : Nat → AV) (ps : Array Tmp) (a b : Code) (st : LoopState) (pd : Option Code) : objBelow n (.loop k T ps a b st pd) = ∀ t, below n (T t) := rfl
theorem defBelow_fn (f : FuncId) (args : List AV) : defBelow n (.fn f args) = ∀ a, a ∈ args → below n a := rfl
theorem defBelow_col (id : Nat) : defBelow n (.collected id) = (id < n) := rfl
end
/-- a loop, from a state that says less -/
theorem W_loop_weak {x : Code} {A B : AAct} (hw : Weak P A B) (k : @W ⟨P, H, .loop x, Q⟩ B) : @W ⟨P, H, .loop x, Q⟩ A := by
  intro X hX
  obtain ⟨C, h1, h2⟩ := k X hX
  exact ⟨C, hw.trans h1, h2⟩
/-- a nil slice, written as an empty one of the call's own -/
theorem W_loop_nil {x : Code} {A : AAct} (t sz : Nat) (ht : A.tmps t = .p .nilslice) (k : @W ⟨P, H, .loop x, Q⟩ { n := A.n, bs := A.bs, rc := A.rc, tmps := upd A.tmps t (.slice A.h.length 0 0 0), h := A.h ++ [.row sz []], df := A.df }) :
    @W ⟨P, H, .loop x, Q⟩ A := by
  refine W_loop_weak (weak_nil sz (T := upd A.tmps t (.slice A.h.length 0 0 0)) fun u => ?_) k
  rw [upd_at]
  by_cases h : u = t
  · subst h; rw [if_pos rfl]; exact .inr ⟨ht, rfl⟩
  · rw [if_neg h]; exact .inl rfl
theorem pures_map {α : Type} (f : α → PV) : ∀ l : List α, pures (l.map fun x => .p (f x)) = some (l.map f)
  | [] => rfl
  | x :: r => by rw [List.map_cons, pures, pures_map f r]; rfl
theorem take_map_len {α β : Type} (f : α → β) (l : List α) : (l.map f).take l.length = l.map f := by
  rw [List.take_of_length_le]; simp

/-! a nil slice in a result, written as an empty one -/
def Pless1 (q v : PV) : Prop := q = v ∨ (q = .nilslice ∧ ∃ sz, v = .slice sz [] false)
def PlessL : List PV → List PV → Prop
  | [], [] => True
  | q :: a, v :: b => Pless1 q v ∧ PlessL a b
  | _, _ => False
def PlessT (q v : PV) : Prop := Pless1 q v ∨ ∃ a b, q = .tuple a ∧ v = .tuple b ∧ PlessL a b
theorem Pless1.rep {q v : PV} (h : Pless1 q v) {M : Nat → Prop} {w : World} {u : Value} (hr : RepP M w u q) : RepP M w u v := by
  rcases h with rfl | ⟨rfl, sz, rfl⟩
  · exact hr
  · cases hr; exact .empty (by simp)
theorem PlessL.get : ∀ {a b : List PV}, PlessL a b → a.length = b.length ∧ ∀ (i : Nat) (v : PV), b[i]? = some v → ∃ q, a[i]? = some q ∧ Pless1 q v
  | [], [], _ => ⟨rfl, by simp⟩
  | q :: a, v :: b, h => by
    obtain ⟨h1, h2⟩ := PlessL.get h.2
    refine ⟨by simp [h1], fun i u hi => ?_⟩
    cases i with
    | zero => cases hi; exact ⟨q, rfl, h.1⟩
    | succ i => exact h2 i u (by simpa using hi)
  | [], _ :: _, h => h.elim
  | _ :: _, [], h => h.elim
theorem PlessT.rep {q v : PV} (h : PlessT q v) {M : Nat → Prop} {w : World} {u : Value} (hr : RepP M w u q) : RepP M w u v := by
  rcases h with h | ⟨a, b, rfl, rfl, h⟩
  · exact h.rep hr
  · obtain ⟨h1, h2⟩ := h.get
    cases hr with
    | tuple hn hr =>
      refine .tuple (by omega) fun i c hi => ?_
      obtain ⟨q, hq, hp⟩ := h2 i c hi
      exact hp.rep (hr i q hq)
theorem PCall.less {f : FuncId} {args : List PV} {q v : PV} (hc : PCall P f args q) (h : PlessT q v) : PCall P f args v := by
  intro M0 w cargs hM ha
  obtain ⟨h1, h2⟩ := hc M0 w cargs hM ha
  refine ⟨h1, h2.mono fun e w' he => ?_⟩
  obtain ⟨v', rfl, hv, hfr⟩ := he
  exact ⟨v', rfl, h.rep hv, hfr⟩
theorem PCall.argless {f : FuncId} {args args' : List PV} {v : PV} (hc : PCall P f args v) (h : PlessL args' args) : PCall P f args' v := by
  intro M0 w cargs hM ha
  obtain ⟨h1, h2⟩ := h.get
  refine hc M0 w cargs hM ⟨by rw [ha.1, h1], fun i c hi => ?_⟩
  obtain ⟨q, hq, hp⟩ := h2 i c hi
  exact hp.rep (ha.2 i q hq)
theorem pcall_of_wp_frzN (hD : DrawLaw P) {H : Hints} {f : FuncId} {fn : Func} {c : Code} {pargs : List PV} {v : PV} {rs : List ResultVar} {n : Nat} (hf : P.funcs[f]? = some fn) (hb : fn.body = some c) (hrs : fn.results.toList = rs) (hn : fn.ntmps = n) (hok : fnOk H fn = true)
    (hlen : pargs.length ≤ n) (hw : wp P H c (endQ P rs 0 (fun _ r h => ∃ q, frzE h r = some q ∧ PlessT q v)) (start n .no (pargs.map .p) [])) : PCall P f pargs v := by
  intro M0 w cargs hM ha
  have ha' : RepL (Rep M0 ⟨[], [], w⟩) cargs (pargs.map .p) := by
    refine ⟨by simpa using ha.1, fun i c hc => ?_⟩
    simp only [List.getElem?_map, Option.map_eq_some_iff] at hc
    obtain ⟨q, hq, rfl⟩ := hc
    exact rep0_of_pv ((ha.2 i q hq).mono (fun _ _ _ => rfl) (fun b hb => by
      rcases hb with hb | hb
      · exact .inl hb
      · simp [Own] at hb))
  have := hcall_of_wp hD (h := []) (R := fun r h => ∃ q, frzE h r = some q ∧ PlessT q v) hf hb hrs hn hok (by simpa using hlen) hw M0 [] w cargs (hok_nil hM) ha'
  refine ⟨this.1, this.2.mono fun e w' h => ?_⟩
  obtain ⟨r, h', m', ⟨q, hq, hless⟩, hev, hk, hend⟩ := h
  cases e with
  | returned v' =>
    cases r with
    | panic v => cases hq
    | ret a => exact ⟨v', rfl, hless.rep (frz_ok (S := ⟨m', h', w'⟩) hk hend hq), hev.fr⟩
  | panicked ch =>
    cases r with
    | panic v => cases hq
    | ret a => exact hend.elim
  | outgrown => exact hend.elim

/-- a loop, by its states; memory by what it was -/
theorem W_loopS {σ : Type} {x : Code} {A : AAct} (live : List Nat) (V : σ → Prop) (μ : σ → Nat) (M : σ → List (Nat × AV)) (hp : σ → Heap → Heap) (s0 : σ) (hv : V s0)
    (h0 : headOk A.bs A.df A.tmps A.h (keepA A.tmps live (M s0)) (hp s0 A.h))
    (hs : ∀ s, V s → @W ⟨P, H, x, seqK (headK P V (fun s => headI A live (M s) (hp s A.h)) μ s) Q⟩ { n := A.n, bs := A.bs, rc := A.rc, tmps := keepT (keepA A.tmps live (M s)), h := hp s A.h, df := A.df }) :
    @W ⟨P, H, .loop x, Q⟩ A := W_loopA live V μ M (fun s => hp s A.h) s0 hv h0 hs

/-- memory is kept as it is -/
theorem weak_headK {A B : AAct} {live : List Nat} {l : List (Nat × AV)} {h : Heap} (hn : B.n = A.n) (hb : B.bs = A.bs) (hr : B.rc = A.rc) (hd : B.df = A.df) (hh : B.h = h)
    (hk : ∀ p, p ∈ keepA A.tmps live l → B.tmps p.1 = p.2) : Weak P B (headI A live l h) := by
  have e : headI A live l h = { B with tmps := keepT (keepA A.tmps live l) } := by
    unfold headI
    cases A; cases B
    simp only at hn hb hr hd hh
    subst hn hb hr hd hh
    rfl
  rw [e]
  exact weak_keep _ hk
theorem W_loopK {σ : Type} {x : Code} {A : AAct} (live : List Nat) (V : σ → Prop) (μ : σ → Nat) (M : σ → List (Nat × AV)) (hp : σ → Heap) (s0 : σ) (hv : V s0) (hh : A.h = hp s0)
    (h0 : ∀ p, p ∈ keepA A.tmps live (M s0) → A.tmps p.1 = p.2)
    (hs : ∀ s, V s → @W ⟨P, H, x, seqK (headK P V (fun s => headI A live (M s) (hp s)) μ s) Q⟩ { n := A.n, bs := A.bs, rc := A.rc, tmps := keepT (keepA A.tmps live (M s)), h := hp s, df := A.df }) :
    @W ⟨P, H, .loop x, Q⟩ A :=
  W_loop V (fun s => headI A live (M s) (hp s)) μ s0 hv (weak_headK rfl rfl rfl rfl hh h0) hs
theorem WQ_headK {σ : Type} {V : σ → Prop} {μ : σ → Nat} {M : σ → List (Nat × AV)} {hp : σ → Heap} {live : List Nat} {s : σ} {A B : AAct} (s' : σ) (h1 : V s') (h2 : μ s' < μ s) (hh : B.h = hp s')
    (h3 : ∀ p, p ∈ keepA A.tmps live (M s') → B.tmps p.1 = p.2) (hn : B.n = A.n := by rfl) (hb : B.bs = A.bs := by rfl) (hr : B.rc = A.rc := by rfl) (hd : B.df = A.df := by rfl) :
    @WQ ⟨seqK (headK P V (fun s => headI A live (M s) (hp s)) μ s) Q⟩ .normal B := ⟨s', h1, h2, weak_headK hn hb hr hd hh h3⟩

/-! loops over lists -/
section
variable {α τ : Type}
def rngV (l : List α) (Inv : List α → List α → τ → Prop) (s : List α × List α × τ) : Prop := l = s.1 ++ s.2.1 ∧ Inv s.1 s.2.1 s.2.2
def rng3 {β : Type} (M : List α → τ → β) (s : List α × List α × τ) : β := M s.1 s.2.2
theorem W_rangeA {x : Code} {A : AAct} (live : List Nat) (l : List α) (hl : l.length < 1000000000) (Inv : List α → List α → τ → Prop) (M : List α → τ → List (Nat × AV)) (hp : List α → τ → Heap) (t0 : τ) (hi : Inv [] l t0)
    (h0 : headOk A.bs A.df A.tmps A.h (keepA A.tmps live (M [] t0)) (hp [] t0))
    (hnil : ∀ t, Inv l [] t → @W ⟨P, H, x, seqK (headK P (rngV l Inv) (fun s => headI A live (rng3 M s) (rng3 hp s)) (fun s => s.2.1.length) (l, [], t)) Q⟩
      { n := A.n, bs := A.bs, rc := A.rc, tmps := keepT (keepA A.tmps live (M l t)), h := hp l t, df := A.df })
    (hcons : ∀ done y r t, l = done ++ y :: r → Inv done (y :: r) t → l[done.length]? = some y → ((done.length : Int) < (l.length : Int)) → IntKind.i64.wrap ((done.length : Int) + 1) = (((done ++ [y]).length : Nat) : Int) →
      @W ⟨P, H, x, seqK (headK P (rngV l Inv) (fun s => headI A live (rng3 M s) (rng3 hp s)) (fun s => s.2.1.length) (done, y :: r, t)) Q⟩
        { n := A.n, bs := A.bs, rc := A.rc, tmps := keepT (keepA A.tmps live (M done t)), h := hp done t, df := A.df }) : @W ⟨P, H, .loop x, Q⟩ A := by
  refine W_loopA live (rngV l Inv) (fun s => s.2.1.length) (fun s => M s.1 s.2.2) (fun s => hp s.1 s.2.2) ([], l, t0) ⟨rfl, hi⟩ h0 ?_
  rintro ⟨done, rest, t⟩ ⟨e1, e2⟩
  dsimp only at e1 e2
  cases rest with
  | nil =>
    rw [List.append_nil] at e1
    subst e1
    exact hnil t e2
  | cons y r =>
    have hlen : done.length < l.length := by rw [e1]; simp
    have hg : l[done.length]? = some y := by rw [e1]; simp
    refine hcons done y r t e1 e2 hg (by omega) ?_
    have e : ((done.length : Int) + 1) = (((done ++ [y]).length : Nat) : Int) := by simp
    rw [e]
    exact IntWalk.i64_in _ ⟨by omega, by simp <;> omega⟩
theorem W_rangeH {x : Code} {A : AAct} (live : List Nat) (l : List α) (hl : l.length < 1000000000) (Inv : List α → List α → τ → Prop) (M : List α → τ → List (Nat × AV)) (t0 : τ) (hi : Inv [] l t0)
    (h0 : headOk A.bs A.df A.tmps A.h (keepA A.tmps live (M [] t0)) A.h)
    (hnil : ∀ t, Inv l [] t → @W ⟨P, H, x, seqK (headK P (rngV l Inv) (fun s => headI A live (rng3 M s) (rng3 (fun _ _ => A.h) s)) (fun s => s.2.1.length) (l, [], t)) Q⟩
      { n := A.n, bs := A.bs, rc := A.rc, tmps := keepT (keepA A.tmps live (M l t)), h := A.h, df := A.df })
    (hcons : ∀ done y r t, l = done ++ y :: r → Inv done (y :: r) t → l[done.length]? = some y → ((done.length : Int) < (l.length : Int)) → IntKind.i64.wrap ((done.length : Int) + 1) = (((done ++ [y]).length : Nat) : Int) →
      @W ⟨P, H, x, seqK (headK P (rngV l Inv) (fun s => headI A live (rng3 M s) (rng3 (fun _ _ => A.h) s)) (fun s => s.2.1.length) (done, y :: r, t)) Q⟩
        { n := A.n, bs := A.bs, rc := A.rc, tmps := keepT (keepA A.tmps live (M done t)), h := A.h, df := A.df }) : @W ⟨P, H, .loop x, Q⟩ A :=
  W_rangeA live l hl Inv M (fun _ _ => A.h) t0 hi h0 hnil hcons
theorem WQ_next {l : List α} {Inv : List α → List α → τ → Prop} {M : List α → τ → List (Nat × AV)} {hp : List α → τ → Heap} {live : List Nat} {done r : List α} {y : α} {t : τ} {A B : AAct}
    (e1 : l = done ++ y :: r) (t' : τ) (hinv : Inv (done ++ [y]) r t') (h3 : headOk A.bs A.df B.tmps B.h (keepA A.tmps live (M (done ++ [y]) t')) (hp (done ++ [y]) t'))
    (hn : B.n = A.n := by rfl) (hb : B.bs = A.bs := by rfl) (hr : B.rc = A.rc := by rfl) (hd : B.df = A.df := by rfl) :
    @WQ ⟨seqK (headK P (rngV l Inv) (fun s => headI A live (rng3 M s) (rng3 hp s)) (fun s => s.2.1.length) (done, y :: r, t)) Q⟩ .normal B :=
  ⟨(done ++ [y], r, t'), ⟨by simp [e1], hinv⟩, by simp, weak_headI hn hb hr hd h3⟩
end

/-! iterators -/
/-- an iterator that yields these, one behind the other, until it is told to stop -/
def Iter (P : Program) (fv : PV) (l : List PV) : Prop :=
  ∃ (g : FuncId) (first cap : List PV), fv = .func (.func g) first cap ∧ ∀ (id : Nat) (Inv : Nat → Heap → Prop) (Fin : Heap → Prop) (h0 : Heap), (∀ k h, Inv k h → h0.length ≤ h.length) →
    (∀ (k : Nat) (v : PV) (h : Heap), l[k]? = some v → Inv k h → HYld P id [.p v] h (fun r h' => (r = .ret (.p (.bool true)) ∧ Inv (k + 1) h') ∨ (r = .ret (.p (.bool false)) ∧ Fin h' ∧ h0.length ≤ h'.length))) →
    Inv 0 h0 → HCall P g (first.map .p ++ [.ref .yl id] ++ cap.map .p) h0 (fun r h' => r = .ret (.p (.tuple [])) ∧ (Inv l.length h' ∨ Fin h'))

/-! small numbers -/
theorem wl0 : IntKind.i64.wrap 0 = 0 := by decide
theorem wl1 : IntKind.i64.wrap 1 = 1 := by decide
theorem wl2 : IntKind.i64.wrap 2 = 2 := by decide
theorem wl3 : IntKind.i64.wrap 3 = 3 := by decide
theorem wl4 : IntKind.i64.wrap 4 = 4 := by decide
theorem wl5 : IntKind.i64.wrap 5 = 5 := by decide
theorem wl6 : IntKind.i64.wrap 6 = 6 := by decide
theorem wl7 : IntKind.i64.wrap 7 = 7 := by decide
theorem wl8 : IntKind.i64.wrap 8 = 8 := by decide
theorem wl9 : IntKind.i64.wrap 9 = 9 := by decide
theorem wl10 : IntKind.i64.wrap 10 = 10 := by decide
theorem wl11 : IntKind.i64.wrap 11 = 11 := by decide
theorem wl12 : IntKind.i64.wrap 12 = 12 := by decide
theorem wrap_in {i : Int} (h0 : -9223372036854775808 ≤ i) (h1 : i ≤ 9223372036854775807) : IntKind.i64.wrap i = i := IntWalk.i64_in _ ⟨by omega, by omega⟩
theorem mul_bd {a b A B : Int} (ha : 0 ≤ a) (hA : a ≤ A) (hb : 0 ≤ b) (hB : b ≤ B) : 0 ≤ a * b ∧ a * b ≤ A * B := ⟨Int.mul_nonneg ha hb, Int.mul_le_mul hA hB hb (by omega)⟩

/-! calls -/
section
variable {ops : Array Oper} {rest : List Oper} {dst : Option Tmp} {A : AAct}
theorem WF_call {f : FuncId} {args : List AV} {R : AEnd → Heap → Prop} (hc : HCall P f args A.h R) (h1 : ∀ v h, R (.ret v) h → @WO ⟨P, H, ops, rest, Q⟩ (A.put dst v h))
    (h2 : ∀ v h, R (.panic v) h → @WQ ⟨Q⟩ (.panic v) { A with h := h }) : @WF ⟨P, H, ops, rest, Q, dst⟩ A f args :=
  hc.mono fun r h hr => by
    cases r with
    | ret v => exact h1 v h hr
    | panic v => exact h2 v h hr
/-- a call that comes back -/
theorem WF_ret {f : FuncId} {args : List AV} {v : AV} {h' : Heap} (hc : HCall P f args A.h (fun r h => r = .ret v ∧ h = h')) (h1 : @WO ⟨P, H, ops, rest, Q⟩ (A.put dst v h')) : @WF ⟨P, H, ops, rest, Q, dst⟩ A f args :=
  WF_call hc (fun v h hr => by obtain ⟨e, rfl⟩ := hr; cases e; exact h1) (fun v h hr => by cases hr.1)
theorem WR_yld {l : Nat} {args : List AV} {R : AEnd → Heap → Prop} (hc : HYld P l args A.h R) (h1 : ∀ v h, R (.ret v) h → @WO ⟨P, H, ops, rest, Q⟩ (A.put dst v h))
    (h2 : ∀ v h, R (.panic v) h → @WQ ⟨Q⟩ (.panic v) { A with h := h }) : @WR ⟨P, H, ops, rest, Q, dst⟩ A (.yld l args) := by
  refine ⟨hc.1, fun M0 m w cargs b hS ha hb => ?_⟩
  obtain ⟨f, tmps, as, bd, h3, h4⟩ := hc.2 M0 m w cargs b hS ha hb
  refine ⟨f, tmps, as, bd, h3, fun c cs => ?_⟩
  obtain ⟨e, w', ⟨r, h', m', hR, hrest⟩, hs⟩ := h4 c cs
  refine ⟨e, w', ⟨r, h', m', ?_, hrest⟩, hs⟩
  cases r with
  | ret v => exact h1 v h' hR
  | panic v => exact h2 v h' hR
end
theorem WR_dfr (ops : Array Oper) (rest : List Oper) (dst : Option Tmp) (n bs : Nat) (T : Nat → AV) (h : Heap) (df : List ADef) (d : ADef) :
    @WR ⟨P, H, ops, rest, Q, dst⟩ ⟨n, bs, .no, T, h, df⟩ (.dfr d) = @WO ⟨P, H, ops, rest, Q⟩ (AAct.put ⟨n, bs, .no, T, h, d :: df⟩ dst (.p (.tuple [])) h) := propext Iff.rfl
theorem WR_rec_none (ops : Array Oper) (rest : List Oper) (dst : Option Tmp) (n bs : Nat) (T : Nat → AV) (h : Heap) (df : List ADef) :
    @WR ⟨P, H, ops, rest, Q, dst⟩ ⟨n, bs, .none, T, h, df⟩ .recover = @WO ⟨P, H, ops, rest, Q⟩ (AAct.put ⟨n, bs, .none, T, h, df⟩ dst (.p .niliface) h) := propext Iff.rfl
theorem WR_rec_pend (ops : Array Oper) (rest : List Oper) (dst : Option Tmp) (n bs : Nat) (v : PV) (T : Nat → AV) (h : Heap) (df : List ADef) :
    @WR ⟨P, H, ops, rest, Q, dst⟩ ⟨n, bs, .pend v, T, h, df⟩ .recover = @WO ⟨P, H, ops, rest, Q⟩ (AAct.put ⟨n, bs, .got v, T, h, df⟩ dst (.p v) h) := propext Iff.rfl
theorem leave_fn (rs : List ResultVar) (R : AEnd → Heap → Prop) (T : Nat → AV) (f : FuncId) (args : List AV) (ds : List ADef) (u : AMode) (h : Heap) :
    aLeave P rs R T (.fn f args :: ds) u h = DCall P f args u h fun r u' h' => match r with
      | .ret _ => aLeave P rs R T ds (aSettle u') h'
      | .panic v => u' = .ret ∧ aLeave P rs R T ds (.pan v) h' := propext Iff.rfl
theorem leave_collected (rs : List ResultVar) (R : AEnd → Heap → Prop) (T : Nat → AV) (id : Nat) (ds : List ADef) (u : AMode) (h : Heap) :
    aLeave P rs R T (.collected id :: ds) u h = (h[id]? = some .dblock ∧ aLeave P rs R T ds u (h.set id .dead)) := propext Iff.rfl
theorem DCall.mono {f : FuncId} {args : List AV} {u : AMode} {h : Heap} {R R' : AEnd → AMode → Heap → Prop} (hc : DCall P f args u h R) (hr : ∀ r u' h', R r u' h' → R' r u' h') : DCall P f args u h R' :=
  fun M0 m w cargs um hS ha hm => by
    obtain ⟨h1, h2⟩ := hc M0 m w cargs um hS ha hm
    refine ⟨h1, fun c cs hc => ?_⟩
    obtain ⟨e, um', w', fr, ⟨r, u', h', m', hR, hrest⟩, hs⟩ := h2 c cs hc
    exact ⟨e, um', w', fr, ⟨r, u', h', m', hr r u' h' hR, hrest⟩, hs⟩

/-! loops over functions -/
theorem W_range {ps : Array Tmp} {assign body : Code} {g : Operand} {A : AAct} {f : FuncId} {args : List AV} {R : AEnd → Heap → Prop} (hrc : A.rc = .no)
    (hi : aInvoke (A.eval g) [.ref .yl (A.h.length + 1)] = .call f args) (hc : HCall P f args (A.h ++ [.dblock, .loop A.n A.tmps ps assign body .ready none]) R)
    (h1 : ∀ v h, R (.ret v) h → loopEnd Q { A with h := h, df := .collected A.h.length :: A.df } (A.h.length + 1) h[A.h.length + 1]?)
    (h2 : ∀ v h, R (.panic v) h → @WQ ⟨Q⟩ (.panic v) { A with h := h, df := .collected A.h.length :: A.df }) : @W ⟨P, H, .rangeFunc g ps assign body, Q⟩ A := by
  show wp P H (.rangeFunc g ps assign body) Q A
  unfold wp
  rw [hrc]
  show rangeK _ _ _ _ _ _
  rw [hi]
  exact hc.mono fun r h hr => by
    cases r with
    | ret v => exact h1 v h hr
    | panic v => exact h2 v h hr
theorem loopEnd_some (A : AAct) (l : Nat) (n : Nat) (T : Nat → AV) (ps : Array Tmp) (as bd : Code) (st : LoopState) (pend : Option Code) :
    loopEnd Q A l (some (.loop n T ps as bd st pend)) = (st ≠ .busy ∧ jumpK Q { A with h := A.h.set l .dead } pend) := propext Iff.rfl
theorem jumpK_none (A : AAct) : jumpK Q A none = @WQ ⟨Q⟩ .normal A := propext Iff.rfl
theorem jumpK_ret (A : AAct) : jumpK Q A (some .ret) = @WQ ⟨Q⟩ .ret A := propext Iff.rfl
theorem jumpK_exit (A : AAct) (id : Nat) : jumpK Q A (some (.exit id)) = @WQ ⟨Q⟩ (.exit id) A := propext Iff.rfl
theorem WQ_assign (n : Nat) (tmps : Nat → AV) (ps : Array Tmp) (assign body : Code) (l bs : Nat) (Q : Cont) (c : Code) (A : AAct) :
    @WQ ⟨assignQ n tmps ps assign body l bs (fun A => wp P H c Q A)⟩ .normal A = (A.bs = bs ∧ A.h[l]? = some (.loop n tmps ps assign body .ready none) ∧ @W ⟨P, H, c, Q⟩ { A with h := A.h.set l (.loop n tmps ps assign body .busy none) }) := propext Iff.rfl
section
variable (n : Nat) (tmps : Nat → AV) (ps : Array Tmp) (assign body : Code) (l bs : Nat) (R : AEnd → Heap → Prop) (A : AAct)
theorem WQ_round_normal : @WQ ⟨roundQ n tmps ps assign body l bs R⟩ .normal A =
    (A.bs = bs ∧ (∃ st pend, A.h[l]? = some (.loop n tmps ps assign body st pend)) ∧ R (.ret (.p (.bool true))) (A.h.set l (.loop n tmps ps assign body .ready none))) := propext Iff.rfl
theorem WQ_round_exit (id : Nat) : @WQ ⟨roundQ n tmps ps assign body l bs R⟩ (.exit id) A =
    (A.bs = bs ∧ (∃ st pend, A.h[l]? = some (.loop n tmps ps assign body st pend)) ∧ R (.ret (.p (.bool false))) (A.h.set l (.loop n tmps ps assign body .done (some (.exit id))))) := propext Iff.rfl
theorem WQ_round_ret : @WQ ⟨roundQ n tmps ps assign body l bs R⟩ .ret A =
    (A.bs = bs ∧ (∃ st pend, A.h[l]? = some (.loop n tmps ps assign body st pend)) ∧ R (.ret (.p (.bool false))) (A.h.set l (.loop n tmps ps assign body .done (some .ret)))) := propext Iff.rfl
end
theorem putParams_nil (T : Nat → AV) (l : List AV) : putParams T [] l = T := by cases l <;> rfl
theorem putParams_cons (T : Nat → AV) (p : Tmp) (ps : List Tmp) (x : AV) (l : List AV) : putParams T (p :: ps) (x :: l) = putParams (upd T p x) ps l := rfl

end Abs
end Go.Proofs.Ythekmbikolpmlaa
