/-
  LAWS: values that are called.
  LAWS: every code, in the abstract machine and in the model's. What is known of regions of any order is handed in.
-/
import Derived.Test.YtbojkcmohgbpaaaGreatDoorAbsStepX
import Derived.RangeFuncRecord
import Derived.RangeFuncIn
namespace Go.Proofs.YtbojkcmohgbpaaaGreatDoor
namespace Abs
variable {P : Program} {M0 : Nat → Prop}
theorem callee_ok {S : Mem} {f : AV} {vf : Value} {args : List AV} {C : Array Value} {g : FuncId} {l : List AV} (hf : Rep M0 S vf f) (ha : RepL (Rep M0 S) C args) (h : aInvoke f args = .call g l) :
    ∃ (fv : Fn) (cap dargs cargs : Array Value), (∀ w, (Deferred.ofValue vf C).run P w = .ok { target := .fn fv cap, args := dargs } w) ∧
      (∀ w, (invoke (.fn fv cap) dargs).run P w = (callFunc g cargs).run P w) ∧ RepL (Rep M0 S) cargs l := by
  unfold aInvoke at h
  split at h
  · rename_i g' first cap
    cases h
    have h1 : RepP (Avoid M0 S.m) S.w vf (.func (.func g) first cap) := hf
    cases h1 with
    | @func _ F K _ _ hf hc h1 h2 =>
      exact ⟨.func g, K, F ++ C, F ++ C ++ K, fun w => by simp [Deferred.ofValue], fun w => by simp [invoke], repL_append (repL_append (repL_of_P hf h1) ha) (repL_of_P hc h2)⟩
  · rename_i g' first cap
    cases h
    obtain ⟨F, K, rfl, h1, h2⟩ := hf
    exact ⟨.func g, K, F ++ C, F ++ C ++ K, fun w => by simp [Deferred.ofValue], fun w => by simp [invoke], repL_append (repL_append (h1.imp fun v c _ hr => rep_of_0 hr) ha) (h2.imp fun v c _ hr => rep_of_0 hr)⟩
  · cases h
  · cases h
end Abs
end Go.Proofs.YtbojkcmohgbpaaaGreatDoor
namespace Go.Proofs.YtbojkcmohgbpaaaGreatDoor
namespace Abs
variable {P : Program} {M0 : Nat → Prop} {S0 : Mem} {b : Frame} {cs0 : List Frame} {m : List (Option Nat)} {A : AAct} {a : Act} {w : World} {H : Hints}
theorem Rel.roundOf_none (hr : Rel P M0 S0 b cs0 m A a w) (hn : A.rc ≠ .rnd) : b.roundOf = none := by
  have := hr.rc
  cases hc : A.rc <;> rw [hc] at this hn
  · exact this
  · exact absurd rfl hn
  · exact this.1
  · exact this.1
  · exact this.1
theorem jump_sim {Q : Ex → AAct → Prop} {n : Nat} {k : List Item} {pend : Option Code} (hr : Rel P M0 S0 b cs0 m A a w) (hn : A.n = n) (h : jumpK Q A pend) :
    Sim P M0 S0 b cs0 n (lone (b.atR a ((pend.map Item.code).toList ++ k)) (csAt A.rc cs0) w) k Q := by
  cases pend with
  | none => exact ⟨.normal, A, m, a, w, h, hn, hr, .refl P _⟩
  | some c =>
    cases c <;> first
      | exact h.elim
      | exact ⟨.ret, A, m, a, w, h, hn, hr, k, .refl P _⟩
      | exact ⟨.exit _, A, m, a, w, h, hn, hr, fun _ hk => .one (stepR_exit hk), fun hk => ⟨k, hk, .refl P _⟩⟩
theorem range_sim {Q : Ex → AAct → Prop} {n : Nat} {k : List Item} {g : Operand} {ps : Array Tmp} {assign body : Code} (hr : Rel P M0 S0 b cs0 m A a w) (hn : A.n = n)
    (h : dfrK (rangeK P A (A.h ++ [.dblock, .loop A.n A.tmps ps assign body .ready none]) A.h.length Q (aInvoke (A.eval g) [.ref .yl (A.h.length + 1)])) A.rc) :
    Sim P M0 S0 b cs0 n (lone (b.atR a (.code (.rangeFunc g ps assign body) :: k)) (csAt A.rc cs0) w) k Q := by
  have hnr : A.rc ≠ .rnd := by intro hc; simp only [hc, dfrK] at h
  have hk : rangeK P A (A.h ++ [.dblock, .loop A.n A.tmps ps assign body .ready none]) A.h.length Q (aInvoke (A.eval g) [.ref .yl (A.h.length + 1)]) := by
    cases hc : A.rc <;> rw [hc] at h <;> first | exact h | exact absurd hc hnr
  have hro := hr.roundOf_none hnr
  cases hinv : aInvoke (A.eval g) [.ref .yl (A.h.length + 1)] with
  | call gf args =>
    rw [hinv] at hk
    have hmlen : m.length = A.h.length := hr.hok.len
    -- the block and the record
    obtain ⟨r, hrdef⟩ : ∃ r : Loop, r = { state := .ready, pending := none, fn := b.fn, tmps := a.tmps, params := ps, assign, body, defers := w.heap.size } := ⟨_, rfl⟩
    obtain ⟨S1, hS1⟩ : ∃ S1 : Mem, S1 = ((⟨m, A.h, w⟩ : Mem).new .dblock (.deferred (some []))) := ⟨_, rfl⟩
    have k1 : HOk P M0 S1 := by
      rw [hS1]
      exact hr.hok.new ⟨_, rfl, heap_alloc_eq _ _⟩
    have e1 : Ev A.h.length ⟨m, A.h, w⟩ S1 := by rw [hS1]; exact Ev.new _ M0 hr.hok (Nat.le_refl _) _ _
    have l1 : S1.h.length = A.h.length + 1 := by rw [hS1]; simp [Mem.new]
    have z1 : S1.w.heap.size = w.heap.size + 1 := by rw [hS1]; simp [Mem.new]
    obtain ⟨S2, hS2⟩ : ∃ S2 : Mem, S2 = S1.new (.loop A.n A.tmps ps assign body .ready none) (.loop r) := ⟨_, rfl⟩
    have e2' : Ev S1.h.length S1 S2 := by rw [hS2]; exact Ev.new _ M0 k1 (Nat.le_refl _) _ _
    have e2 : Ev A.h.length S1 S2 := e2'.mono (by omega)
    have e12 : Ev A.h.length ⟨m, A.h, w⟩ S2 := e1.trans e2
    have k2 : HOk P M0 S2 := by
      rw [hS2]
      refine k1.new ⟨_, r, rfl, heap_alloc_eq _ _, by rw [hrdef]; exact hr.size, ?_, by rw [hrdef], by rw [hrdef], by rw [hrdef], by rw [hrdef], by rw [hrdef], by rw [hrdef]; exact hr.le.2⟩
      intro t
      rw [← hS2, show r.tmps = a.tmps by rw [hrdef]]
      exact e12.keep (hr.tmps t)
    have hh : S2.h = A.h ++ [.dblock, .loop A.n A.tmps ps assign body .ready none] := by rw [hS2, hS1]; simp [Mem.new]
    have hm2 : S2.m = m ++ [some w.heap.size, some (w.heap.size + 1)] := by rw [hS2]; simp [Mem.new, hS1]
    have hw2 : S2.w = (w.alloc (.deferred (some []))).alloc (.loop r) := by rw [hS2, hS1]; rfl
    have hml : S2.m.getD A.h.length none = some w.heap.size := by rw [hm2, ← hmlen]; simp
    have hml1 : S2.m.getD (A.h.length + 1) none = some (w.heap.size + 1) := by rw [hm2, ← hmlen]; simp
    have hhl : S2.h[A.h.length]? = some .dblock := by rw [hh]; simp
    have hhl1 : S2.h[A.h.length + 1]? = some (.loop A.n A.tmps ps assign body .ready none) := by rw [hh]; simp
    obtain ⟨m2, h2, w2⟩ := S2
    simp only at hh hm2 hw2 hml hml1 hhl hhl1
    -- the call
    have hf2 : Rep M0 ⟨m2, h2, w2⟩ (a.eval g) (A.eval g) := e12.keep (hr.eval g)
    have hy : Rep M0 ⟨m2, h2, w2⟩ (.func (.yield (w.heap.size + 1)) #[] #[]) (.ref .yl (A.h.length + 1)) :=
      ⟨⟨w.heap.size + 1, rfl⟩, .inr ⟨⟨_, hhl1, rfl⟩, w.heap.size + 1, hml1, rfl⟩⟩
    have ha2 : RepL (Rep M0 ⟨m2, h2, w2⟩) #[.func (.yield (w.heap.size + 1)) #[] #[]] [.ref .yl (A.h.length + 1)] := by
      refine ⟨rfl, fun i c hi => ?_⟩
      cases i with
      | zero => cases hi; exact hy
      | succ i => cases hi
    obtain ⟨fv, cap, dargs, cargs, hof, hin, hargs⟩ := callee_ok (P := P) hf2 ha2 hinv
    rw [← hh] at hk
    obtain ⟨henter, hcall⟩ := hk M0 m2 w2 cargs k2 hargs
    -- the activation behind the record's laying
    have hr2 : Rel P M0 S0 b cs0 m2 { A with h := h2, df := .collected A.h.length :: A.df } { a with defers := [{ target := .collected w.heap.size, args := #[] }] ++ a.defers } w2 := by
      have := hr.ahead e12 k2
      exact ⟨this.size, this.tmps, this.hok, this.ev, this.le, ⟨⟨w.heap.size, rfl, .inr ⟨hhl, hml⟩⟩, this.df⟩, this.rc⟩
    have hstart := stepR_rangeFunc (P := P) (b := b) (a := a) (k := k) (cs := csAt A.rc cs0) (w := w) (g := g) (ps := ps) (assign := assign) (body := body) (l := w.heap.size + 1)
      (mark := [{ target := .collected w.heap.size, args := #[] }]) (w₁ := w2) (w₁' := w2) (w₂ := w2) (d := { target := .fn fv cap, args := dargs }) (f := gf) (args := cargs)
      (by rw [hro, run_enterLoop_outer, hw2, hrdef]) (by
        have := hof w2
        simpa [resolve, Act.eval] using this) ((hin w2).trans (henter w2))
    obtain ⟨e, w3, fr, ⟨re, h3, m3, hR, hev, hhk, hend⟩, hcomes, _, hleave⟩ := hcall (b.atR { a with defers := [{ target := .collected w.heap.size, args := #[] }] ++ a.defers } (.inRangeFunc (w.heap.size + 1) :: k) :: csAt A.rc cs0)
    have hr3 := hr2.ahead hev hhk
    cases e with
    | outgrown => exact hend.elim
    | returned v' =>
      cases re with
      | panic v => exact hend.elim
      | ret v =>
        have hR' : loopEnd Q { A with h := h3, df := .collected A.h.length :: A.df } (A.h.length + 1) h3[A.h.length + 1]? := hR
        unfold loopEnd at hR'
        split at hR'
        · rename_i n' tmps' ps' as' bd' st pend hob
          obtain ⟨hst, hj⟩ := hR'
          obtain ⟨o', ho', hoe⟩ := hev.obj (A.h.length + 1) _ (by rw [hh]; simp) hhl1
          have ho'' : h3[A.h.length + 1]? = some o' := ho'
          rw [hob] at ho''
          cases ho''
          have hm3 : m3.getD (A.h.length + 1) none = some (w.heap.size + 1) := by
            rcases hoe with he | ⟨_, _, _, he, _⟩ | ⟨_, _, he⟩
            · cases he
            · cases he
            · exact he.trans hml1
          obtain ⟨bl, r3, hbl, hr3b, _, _, _, _, _, hst3, hp3, _⟩ := hhk.obj (A.h.length + 1) _ hob
          have hbl' : m3.getD (A.h.length + 1) none = some bl := hbl
          rw [hm3] at hbl'
          cases hbl'
          have hr3b' : w3.heap[w.heap.size + 1]? = some (.loop r3) := hr3b
          have hendl := run_endLoop (P := P) hr3b' (by rw [hst3]; exact hst)
          rw [← hp3] at hj
          have hput := putO_ok (S := ⟨m3, h3, w3⟩) hhk (o := .dead) (ob := .loop { r3 with state := .exhausted }) hm3 hob hr3b (loop_shape hr3b) (by intro C T f; simp) (.inl rfl) (fun _ _ => trivial)
          have hr4 := hr3.ahead hput.2 hput.1
          have hsim := jump_sim (k := k) (n := n) hr4 hn hj
          refine hsim.of_steps (.head hstart (Steps.trans hcomes ?_))
          refine .head (step_leave_returned hleave) ?_
          rw [finish_atR_inRangeFunc]
          exact .one (stepR_endRangeFunc hendl)
        · exact hR'.elim
    | panicked ch =>
      cases re with
      | ret v => exact hend.elim
      | panic v =>
        obtain ⟨v', rfl, hv⟩ := hend
        refine ⟨.panic v, _, m3, _, w3, hR, hn, hr3, v', .inRangeFunc (w.heap.size + 1) :: k, hv, ?_⟩
        rw [← Frame.raise_atR]
        exact .head hstart (Steps.trans hcomes (.one (step_leave_panicked hleave)))
  | _ => rw [hinv] at hk; exact hk.elim
theorem wp_sim (hD : DrawLaw P) : ∀ (c : Code) {Q : Ex → AAct → Prop} {n : Nat} {m : List (Option Nat)} {A : AAct} {a : Act} {w : World} {k : List Item}, okCode H n c = true → Rel P M0 S0 b cs0 m A a w → A.n = n →
    wp P H c Q A → Sim P M0 S0 b cs0 n (lone (b.atR a (.code c :: k)) (csAt A.rc cs0) w) k Q := by
  intro c
  induction c with
  | skip => intro Q n m A a w k _ hr hn h; exact ⟨.normal, A, m, a, w, h, hn, hr, .one stepR_skip⟩
  | region id ops draw =>
    intro Q n m A a w k hc hr hn h
    cases draw with
    | false =>
      have := ops_sim (k := k) hc ops.toList 0 rfl hr hn h
      rw [List.drop_zero] at this
      exact this.of_steps (.one stepR_region)
    | true =>
      simp only [okCode, Bool.and_eq_true] at hc
      exact hD hc.1 hc.2 hr hn h
  | seq x y ihx ihy =>
    intro Q n m A a w k hc hr hn h
    simp only [okCode, Bool.and_eq_true] at hc
    obtain ⟨e, A1, m1, a1, w1, hq, hn1, hr1, harr⟩ := ihx (k := .code y :: k) hc.1 hr hn h
    have pass : ∀ (e' : Ex), e' ≠ .normal → Q e' A1 → Arr P (Avoid M0 m1) (lone (b.atR a (.code x :: .code y :: k)) (csAt A.rc cs0) w) b (.code y :: k) (csAt A1.rc cs0) a1 w1 e' →
        Sim P M0 S0 b cs0 n (lone (b.atR a (.code (.seq x y) :: k)) (csAt A.rc cs0) w) k Q :=
      fun e' he hq harr => ⟨e', A1, m1, a1, w1, hq, hn1, hr1, .of_steps (.one stepR_seq) (.pass (x := .code y) rfl he harr)⟩
    cases e with
    | normal => exact (ihy (k := k) hc.2 hr1 hn1 hq).of_steps (.head stepR_seq harr)
    | exit id => exact pass (.exit id) (by simp) hq harr
    | ret => exact pass .ret (by simp) hq harr
    | panic v => exact pass (.panic v) (by simp) hq harr
  | cond c x y ihx ihy =>
    intro Q n m A a w k hc hr hn h
    simp only [okCode, Bool.and_eq_true] at hc
    unfold wp condK at h
    split at h
    · rename_i t ht
      have hv : a.eval c = .bool t := bool_rep (ht ▸ hr.eval c)
      have hs := stepR_cond (P := P) (b := b) (a := a) (k := k) (cs := csAt A.rc cs0) (w := w) (x := x) (y := y) hv
      cases t with
      | true => exact (ihx (k := k) hc.1 hr hn (h.1 rfl)).of_steps (.one hs)
      | false => exact (ihy (k := k) hc.2 hr hn (h.2 rfl)).of_steps (.one hs)
    · exact h.elim
  | block id x ihx =>
    intro Q n m A a w k hc hr hn h
    obtain ⟨e, A1, m1, a1, w1, hq, hn1, hr1, harr⟩ := ihx (k := .inBlock id :: k) hc hr hn h
    cases e with
    | normal => exact ⟨.normal, A1, m1, a1, w1, hq, hn1, hr1, .head stepR_block (Steps.trans harr (.one stepR_inBlock))⟩
    | exit id' =>
      by_cases hid : id' = id
      · simp only [blockK, hid, if_true] at hq
        exact ⟨.normal, A1, m1, a1, w1, hq, hn1, hr1, .head stepR_block (harr.1 k (by simp [exitTo, hid]))⟩
      · simp only [blockK, hid, if_false] at hq
        have this : (id == id') = false := by simp; exact fun h => hid h.symm
        have hx : exitTo id' (.inBlock id :: k) = exitTo id' k := by simp [exitTo, this]
        exact ⟨.exit id', A1, m1, a1, w1, hq, hn1, hr1, fun k' hk => .head stepR_block (harr.1 k' (by rw [hx]; exact hk)),
          fun hk => let ⟨k₁, h1, h2⟩ := harr.2 (by rw [hx]; exact hk); ⟨k₁, h1, .head stepR_block h2⟩⟩
    | ret => exact ⟨.ret, A1, m1, a1, w1, hq, hn1, hr1, let ⟨k₁, h1⟩ := harr; ⟨k₁, .head stepR_block h1⟩⟩
    | panic v => exact ⟨.panic v, A1, m1, a1, w1, hq, hn1, hr1, let ⟨v', t, h1, h2⟩ := harr; ⟨v', t, h1, .head stepR_block h2⟩⟩
  | loop x ihx =>
    intro Q n m A a w k hc hr hn h
    obtain ⟨B, ⟨hn2, hrc2, hw⟩, hX⟩ := h (fun B => ∀ {m : List (Option Nat)} {a : Act} {w : World}, Rel P M0 S0 b cs0 m B a w → B.n = n → Sim P M0 S0 b cs0 n (lone (b.atR a (.code x :: .inLoop x :: k)) (csAt B.rc cs0) w) k Q) (by
      intro B hB m a w hr hn
      obtain ⟨e, A1, m1, a1, w1, hq, hn1, hr1, harr⟩ := ihx (k := .inLoop x :: k) hc hr hn hB
      have pass : ∀ (e' : Ex), e' ≠ .normal → Q e' A1 → Arr P (Avoid M0 m1) (lone (b.atR a (.code x :: .inLoop x :: k)) (csAt B.rc cs0) w) b (.inLoop x :: k) (csAt A1.rc cs0) a1 w1 e' →
          Sim P M0 S0 b cs0 n (lone (b.atR a (.code x :: .inLoop x :: k)) (csAt B.rc cs0) w) k Q :=
        fun e' he hq harr => ⟨e', A1, m1, a1, w1, hq, hn1, hr1, .pass (x := .inLoop x) rfl he harr⟩
      cases e with
      | normal =>
        obtain ⟨D, ⟨hn2, hrc2, hw⟩, hD⟩ := hq
        obtain ⟨m2, hr2⟩ := hw M0 S0 b cs0 m1 a1 w1 hr1
        have := hD hr2 (hn2.trans hn1)
        rw [hrc2] at this
        exact this.of_steps (Steps.trans harr (.one stepR_inLoop))
      | exit id => exact pass (.exit id) (by simp) hq harr
      | ret => exact pass .ret (by simp) hq harr
      | panic v => exact pass (.panic v) (by simp) hq harr)
    obtain ⟨m2, hr2⟩ := hw M0 S0 b cs0 m a w hr
    have := hX hr2 (hn2.trans hn)
    rw [hrc2] at this
    exact this.of_steps (.one stepR_loop)
  | rangeFunc g ps assign body _ _ => intro Q n m A a w k hc hr hn h; exact range_sim hr hn h
  | scope x ihx =>
    intro Q n m A a w k hc hr hn h
    have h0 : step P (lone (b.atR a (.code (.scope x) :: k)) (csAt A.rc cs0) w) = .next (lone (b.atR a (.code x :: .inScope x :: k)) (csAt A.rc cs0) w) :=
      step_lone_go (by simp [stepG, stepG.exec, Frame.atR])
    obtain ⟨e, A1, m1, a1, w1, hq, hn1, hr1, harr⟩ := ihx (k := .inScope x :: k) hc hr hn h
    have h1 : step P (lone (b.atR a1 (.inScope x :: k)) (csAt A1.rc cs0) w1) = .next (lone (b.atR a1 k) (csAt A1.rc cs0) w1) :=
      step_lone_go (by simp [stepG, stepG.exec, Frame.atR])
    cases e with
    | normal => exact ⟨.normal, A1, m1, a1, w1, hq, hn1, hr1, .head h0 (Steps.trans harr (.one h1))⟩
    | exit id =>
      have hx : exitTo id (.inScope x :: k) = exitTo id k := by simp [exitTo]
      exact ⟨.exit id, A1, m1, a1, w1, hq, hn1, hr1, fun k' hk => .head h0 (harr.1 k' (by rw [hx]; exact hk)),
        fun hk => let ⟨k₁, g1, g2⟩ := harr.2 (by rw [hx]; exact hk); ⟨k₁, g1, .head h0 g2⟩⟩
    | ret => exact ⟨.ret, A1, m1, a1, w1, hq, hn1, hr1, let ⟨k₁, h1⟩ := harr; ⟨k₁, .head h0 h1⟩⟩
    | panic v => exact ⟨.panic v, A1, m1, a1, w1, hq, hn1, hr1, let ⟨v', t, h1, h2⟩ := harr; ⟨v', t, h1, .head h0 h2⟩⟩
  | label l => intro Q n m A a w k _ hr hn h; exact ⟨.normal, A, m, a, w, h, hn, hr, .one stepR_label⟩
  | exit id => intro Q n m A a w k _ hr hn h; exact ⟨.exit id, A, m, a, w, h, hn, hr, fun _ hk => .one (stepR_exit hk), fun hk => ⟨k, hk, .refl P _⟩⟩
  | ret => intro Q n m A a w k _ hr hn h; exact ⟨.ret, A, m, a, w, h, hn, hr, k, .refl P _⟩
  | _ => intro Q n m A a w k _ hr hn h; exact h.elim
end Abs
end Go.Proofs.YtbojkcmohgbpaaaGreatDoor
