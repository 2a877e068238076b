/-
  LAWS: states that say less: forgotten temporaries, forgotten memory, an empty row in place of a nil slice.
  LAWS: what a code comes to, asked for less; loops unrolled.
-/
import Derived.Test.YtbojkcmohgbpaaaGreatDoorAbsFrz
namespace Go.Proofs.YtbojkcmohgbpaaaGreatDoor
namespace Abs
variable {P : Program} {M0 : Nat → Prop}
theorem Weak.refl (A : AAct) : Weak P A A := ⟨rfl, rfl, fun _ _ _ _ m _ _ h => ⟨m, h⟩⟩
theorem Weak.trans {A B C : AAct} (h : Weak P A B) (k : Weak P B C) : Weak P A C :=
  ⟨k.1.trans h.1, k.2.1.trans h.2.1, fun M0 S0 b cs0 m a w hr => let ⟨m1, h1⟩ := h.2.2 M0 S0 b cs0 m a w hr; k.2.2 M0 S0 b cs0 m1 a w h1⟩
theorem weak_tmps {A : AAct} {T : Nat → AV} (h : ∀ t, T t = A.tmps t ∨ T t = .undef) : Weak P A { A with tmps := T } :=
  ⟨rfl, rfl, fun M0 S0 b cs0 m a w hr => ⟨m, hr.size, fun t => by
    show Rep M0 ⟨m, A.h, w⟩ _ (T t)
    rcases h t with e | e
    · rw [e]; exact hr.tmps t
    · rw [e]; exact trivial, hr.hok, hr.ev, hr.le, hr.df, hr.rc⟩⟩
def Mem.cut (S : Mem) (l : Nat) : Mem := ⟨S.m.take l, S.h.take l, S.w⟩
theorem own_cut {S : Mem} {l b : Nat} (h : Own (S.cut l).m b) : Own S.m b := List.mem_of_mem_take h
theorem avoid_cut {S : Mem} {l b : Nat} (h : Avoid M0 (S.cut l).m b) : Avoid M0 S.m b := h.imp id own_cut
theorem cut_get {S : Mem} {l id : Nat} (h : id < l) : (S.cut l).h[id]? = S.h[id]? := by
  show (S.h.take l)[id]? = _
  rw [List.getElem?_take, if_pos h]
theorem cut_m {S : Mem} {l id : Nat} (h : id < l) : (S.cut l).m.getD id none = S.m.getD id none := by
  show (S.m.take l).getD id none = _
  rw [List.getD_eq_getElem?_getD, List.getD_eq_getElem?_getD, List.getElem?_take, if_pos h]
theorem LiveAt.cut {S : Mem} {l id ver : Nat} {X : Nat → Option Nat → Prop} (h : LiveAt S id ver X) (hid : id < l) : LiveAt (S.cut l) id ver X := by
  unfold LiveAt at *
  rw [cut_get hid, cut_m hid]
  exact h
theorem Rep0.cut {S : Mem} {l : Nat} {v : Value} {a : AV} (h : Rep0 M0 S v a) (hb : below0 l a) : Rep0 M0 (S.cut l) v a := by
  cases a with
  | p q => exact RepP.less (show RepP (Avoid M0 S.m) S.w v q from h) fun b hb => avoid_cut hb
  | ptr id ver i o => exact ⟨h.1, h.2.cut hb⟩
  | slice id ver off len => exact ⟨h.1, LiveAt.cut (S := S) h.2 hb⟩
  | ref k id =>
    refine ⟨h.1, ?_⟩
    rw [cut_get hb, cut_m hb]
    exact h.2
  | undef => exact trivial
  | agg cs => exact h.elim
  | func fn f c => exact h.elim
  | tuple vs => exact h.elim
theorem RepS.cut {S : Mem} {l : Nat} {v : Value} {a : AV} (h : RepS M0 S v a) (hb : belowS l a) : RepS M0 (S.cut l) v a := by
  cases a with
  | func fn f c =>
    obtain ⟨F, C, rfl, h1, h2⟩ := h
    exact ⟨F, C, rfl, h1.imp fun v c hc hr => Rep0.cut hr (hb.1 c hc), h2.imp fun v c hc hr => Rep0.cut hr (hb.2 c hc)⟩
  | p q => exact Rep0.cut (M0 := M0) (a := .p q) h hb
  | ptr id ver i o => exact Rep0.cut (M0 := M0) (a := .ptr id ver i o) h hb
  | slice id ver off len => exact Rep0.cut (M0 := M0) (a := .slice id ver off len) h hb
  | ref k id => exact Rep0.cut (M0 := M0) (a := .ref k id) h hb
  | undef => exact trivial
  | agg cs => exact h.elim
  | tuple vs => exact h.elim
theorem RepA.cut {S : Mem} {l : Nat} {v : Value} {a : AV} (h : RepA M0 S v a) (hb : belowA l a) : RepA M0 (S.cut l) v a := by
  cases a with
  | agg cs =>
    obtain ⟨C, rfl, h1, h2⟩ := h
    exact ⟨C, rfl, h1, h2.imp fun v c hc hr => RepS.cut hr (hb c hc)⟩
  | p q => exact RepS.cut (M0 := M0) (a := .p q) h hb
  | ptr id ver i o => exact RepS.cut (M0 := M0) (a := .ptr id ver i o) h hb
  | slice id ver off len => exact RepS.cut (M0 := M0) (a := .slice id ver off len) h hb
  | ref k id => exact RepS.cut (M0 := M0) (a := .ref k id) h hb
  | func fn f c => exact RepS.cut (M0 := M0) (a := .func fn f c) h hb
  | undef => exact trivial
  | tuple vs => exact h.elim
theorem Rep.cut {S : Mem} {l : Nat} {v : Value} {a : AV} (h : Rep M0 S v a) (hb : below l a) : Rep M0 (S.cut l) v a := by
  cases a with
  | tuple cs =>
    obtain ⟨C, rfl, h2⟩ := h
    exact ⟨C, rfl, h2.imp fun v c hc hr => RepA.cut hr (hb c hc)⟩
  | p q => exact RepA.cut (M0 := M0) (a := .p q) h hb
  | ptr id ver i o => exact RepA.cut (M0 := M0) (a := .ptr id ver i o) h hb
  | slice id ver off len => exact RepA.cut (M0 := M0) (a := .slice id ver off len) h hb
  | ref k id => exact RepA.cut (M0 := M0) (a := .ref k id) h hb
  | func fn f c => exact RepA.cut (M0 := M0) (a := .func fn f c) h hb
  | undef => exact trivial
  | agg cs => exact RepA.cut (M0 := M0) (a := .agg cs) h hb
def objBelow (l : Nat) : AObj → Prop
  | .row _ xs => ∀ x, x ∈ xs → below l x
  | .loop _ tmps _ _ _ _ _ => ∀ t, below l (tmps t)
  | .bld _ _ x => below0 l x
  | _ => True
def defBelow (l : Nat) : ADef → Prop
  | .fn _ args => ∀ a, a ∈ args → below l a
  | .collected id => id < l
theorem belowS_cell {l : Nat} {x c : AV} {cs : List AV} (hx : x.cells = some cs) (hb : below l x) (hc : c ∈ cs) (hcell : c.isCell = true) : belowS l c := by
  rcases cells_agg hx with ⟨l', rfl⟩ | ⟨l', rfl⟩ | ⟨h1, rfl⟩
  · simp only [AV.cells, PV.cells, Option.some.injEq] at hx
    subst hx
    simp only [List.mem_map] at hc
    obtain ⟨q, _, rfl⟩ := hc
    exact trivial
  · simp only [AV.cells, Option.some.injEq] at hx
    subst hx
    exact hb c hc
  · simp only [List.mem_singleton] at hc
    subst hc
    cases c <;> first | exact hb | exact trivial | cases h1
theorem hok_cut {S : Mem} (hS : HOk P M0 S) {l : Nat} (ho : ∀ (id : Nat) (o : AObj), id < l → S.h[id]? = some o → objBelow l o) : HOk P M0 (S.cut l) where
  len := by simp [Mem.cut, hS.len]
  lt := fun b h => hS.lt b (own_cut h)
  m0 := fun b h => ⟨(hS.m0 b h).1, fun hn => (hS.m0 b h).2 (own_cut hn)⟩
  gl := hS.gl.fr (fun _ _ _ => rfl) fun b hb => .inl (own_cut hb)
  inj := fun i j b hi hj => by
    have key : ∀ k : Nat, (S.cut l).m[k]? = some (some b) → S.m[k]? = some (some b) := by
      intro k hk
      have hk' : (S.m.take l)[k]? = some (some b) := hk
      rw [List.getElem?_take] at hk'
      split at hk'
      · exact hk'
      · cases hk'
    exact hS.inj i j b (key i hi) (key j hj)
  obj := fun id o hid => by
    have hlt : id < l := by
      have := (List.getElem?_eq_some_iff.1 hid).1
      simp [Mem.cut] at this
      omega
    rw [cut_get hlt] at hid
    rw [cut_m hlt]
    have hb := ho id o hlt hid
    have := hS.obj id o hid
    cases o with
    | row sz xs =>
      rcases this with h | ⟨b, T, C, h1, h2, h3, h4⟩
      · exact .inl h
      · refine .inr ⟨b, T, C, h1, h2, h3, fun i x hx => ?_⟩
        obtain ⟨cs, h5, h6, h7⟩ := h4 i x hx
        exact ⟨cs, h5, h6, fun j c hc => ⟨(h7 j c hc).1, RepS.cut (h7 j c hc).2 (belowS_cell h5 (hb x (List.mem_of_getElem? hx)) (List.mem_of_getElem? hc) (h7 j c hc).1)⟩⟩
    | loop n tmps ps assign body st pend =>
      obtain ⟨b, r, h1, h2, h3, h4, h5⟩ := this
      exact ⟨b, r, h1, h2, h3, fun t => Rep.cut (h4 t) (hb t), h5⟩
    | strIter s p => exact this
    | mp es =>
      obtain ⟨b, C, clk, h1, h2, h3⟩ := this
      exact ⟨b, C, clk, h1, h2, h3.monoP fun v q hq => RepS.cut hq trivial⟩
    | dblock => exact this
    | bld T el x =>
      obtain ⟨b, p, v, h1, h2, h3, h4, h5, h6⟩ := this
      exact ⟨b, p, v, h1, h2, h3, h4, Rep0.cut h5 hb, h6⟩
    | dead => exact trivial
theorem defs_cut {S : Mem} {l : Nat} : ∀ {ds : List Deferred} {xs : List ADef}, DefsRep P M0 S ds xs → (∀ x, x ∈ xs → defBelow l x) → DefsRep P M0 (S.cut l) ds xs
  | [], [], _, _ => trivial
  | d :: ds, x :: xs, h, hb => by
    refine ⟨?_, defs_cut h.2 fun y hy => hb y (by simp [hy])⟩
    have hx := hb x (by simp)
    have h1 := h.1
    cases x with
    | fn g args =>
      obtain ⟨fv, cap, dargs, cargs, h2, h3, h4⟩ := h1
      exact ⟨fv, cap, dargs, cargs, h2, h3, h4.imp fun v c hc hr => Rep.cut hr (hx c hc)⟩
    | collected id =>
      obtain ⟨bl, h2, h3⟩ := h1
      refine ⟨bl, h2, ?_⟩
      rw [cut_get hx, cut_m hx]
      exact h3
  | [], _ :: _, h, _ => h.elim
  | _ :: _, [], h, _ => h.elim
theorem weak_cut {A : AAct} {T : Nat → AV} (l : Nat) (hl : A.bs ≤ l) (hlen : l ≤ A.h.length) (ht : ∀ t, (T t = A.tmps t ∧ below l (A.tmps t)) ∨ T t = .undef)
    (ho : ∀ (id : Nat) (o : AObj), id < l → A.h[id]? = some o → objBelow l o) (hd : ∀ x, x ∈ A.df → defBelow l x) : Weak P A { A with tmps := T, h := A.h.take l } :=
  ⟨rfl, rfl, fun M0 S0 b cs0 m a w hr => ⟨m.take l, hr.size, fun t => by
      show Rep M0 (Mem.cut ⟨m, A.h, w⟩ l) _ (T t)
      rcases ht t with ⟨e, hb⟩ | e
      · rw [e]; exact Rep.cut (hr.tmps t) hb
      · rw [e]; exact trivial,
    hok_cut (S := ⟨m, A.h, w⟩) hr.hok ho,
    { fr := hr.ev.fr
      sub := fun x hx => hr.ev.sub x (List.mem_of_mem_take hx)
      obj := fun id o hid ho' => by
        obtain ⟨o', h1, h2⟩ := hr.ev.obj id o hid ho'
        have hidl : id < l := by have : id < A.bs := hid; omega
        refine ⟨o', ?_, ?_⟩
        · exact (cut_get (S := ⟨m, A.h, w⟩) hidl).trans h1
        · have := cut_m (S := ⟨m, A.h, w⟩) hidl
          show ObjEv _ _ ((Mem.cut ⟨m, A.h, w⟩ l).m.getD id none) _
          rw [this]; exact h2 },
    ⟨by show A.bs ≤ (A.h.take l).length; simp; omega, hr.le.2⟩, defs_cut (S := ⟨m, A.h, w⟩) hr.df hd, by
      have := hr.rc
      cases hc : A.rc <;> rw [hc] at this <;> first | exact this | skip
      obtain ⟨h1, h2, v', cs1, h3, h4⟩ := this
      exact ⟨h1, h2, v', cs1, h3, RepP.less h4 fun b hb => avoid_cut (S := ⟨m, A.h, w⟩) (l := l) hb⟩⟩⟩
theorem weak_nil {A : AAct} {T : Nat → AV} (sz : Nat) (ht : ∀ t, T t = A.tmps t ∨ (A.tmps t = .p .nilslice ∧ T t = .slice A.h.length 0 0 0)) : Weak P A { A with tmps := T, h := A.h ++ [.row sz []] } :=
  ⟨rfl, rfl, fun M0 S0 b cs0 m a w hr => ⟨m ++ [none], by
    have hk := hok_nil_row (S := ⟨m, A.h, w⟩) hr.hok sz
    have hev := Ev.nil (S := ⟨m, A.h, w⟩) hr.hok sz
    have hr1 := hr.ahead (m' := m ++ [none]) (h' := A.h ++ [.row sz []]) (w' := w) hev hk
    refine ⟨hr1.size, fun t => ?_, hr1.hok, hr1.ev, hr1.le, hr1.df, hr1.rc⟩
    show Rep M0 ⟨m ++ [none], A.h ++ [.row sz []], w⟩ _ (T t)
    rcases ht t with e | ⟨e1, e2⟩
    · rw [e]; exact hr1.tmps t
    · rw [e2]
      have h1 := hr.tmps t
      rw [e1] at h1
      have h2 : RepP (Avoid M0 m) w (a.tmps.getD t undef) .nilslice := h1
      generalize a.tmps.getD t undef = v at h2 ⊢
      cases h2
      refine ⟨⟨none, 0, 0, rfl⟩, .inr ⟨sz, [], by simp, Nat.le_refl _, fun _ => .inr (.inr ⟨?_, rfl, rfl⟩)⟩⟩
      have := hr.hok.len
      show (m ++ [none]).getD A.h.length none = none
      rw [List.getD_eq_getElem?_getD, ← show m.length = A.h.length from this]
      simp⟩⟩
def frzE (h : Heap) : AEnd → Option PV
  | .ret a => frz h a
  | _ => none
theorem pcall_of_wp_frz (hD : DrawLaw P) {H : Hints} {f : FuncId} {fn : Func} {c : Code} {pargs : List PV} {v : PV} {rs : List ResultVar} {n : Nat} (hf : P.funcs[f]? = some fn) (hb : fn.body = some c) (hrs : fn.results.toList = rs) (hn : fn.ntmps = n) (hok : fnOk H fn = true)
    (hlen : pargs.length ≤ n) (hw : wp P H c (endQ P rs 0 (fun _ r h => frzE h r = some v)) (start n .no (pargs.map .p) [])) : PCall P f pargs v := by
  intro M0 w cargs hM hg ha
  have ha' : RepL (Rep M0 ⟨[], [], w⟩) cargs (pargs.map .p) := by
    refine ⟨by simpa using ha.1, fun i c hc => ?_⟩
    simp only [List.getElem?_map, Option.map_eq_some_iff] at hc
    obtain ⟨q, hq, rfl⟩ := hc
    exact rep0_of_pv ((ha.2 i q hq).mono (fun _ _ _ => rfl) (fun b hb => by
      rcases hb with hb | hb
      · exact .inl hb
      · simp [Own] at hb))
  have := hcall_of_wp hD (h := []) (R := fun r h => frzE h r = some v) hf hb hrs hn hok (by simpa using hlen) hw M0 [] w cargs (hok_nil hM hg) ha'
  refine ⟨this.1, this.2.mono fun e w' h => ?_⟩
  obtain ⟨r, h', m', hR, hev, hk, hend⟩ := h
  cases e with
  | returned v' =>
    cases r with
    | panic v => cases hR
    | ret a => exact ⟨v', rfl, frz_ok (S := ⟨m', h', w'⟩) hk hend hR, hev.fr⟩
  | panicked ch =>
    cases r with
    | panic v => cases hR
    | ret a => exact hend.elim
  | outgrown => exact hend.elim
end Abs
end Go.Proofs.YtbojkcmohgbpaaaGreatDoor
namespace Go.Proofs.YtbojkcmohgbpaaaGreatDoor
namespace Abs
variable {P : Program} {H : Hints} {ops : Array Oper} {Q Q' : Ex → AAct → Prop}
theorem orK_mono2 {A : AAct} {dst : Option Tmp} {K K' : AAct → Prop} {r : OR} (h : ∀ B, K B → K' B) (hq : ∀ e B, Q e B → Q' e B) (k : orK P A dst K Q r) : orK P A dst K' Q' r := by
  cases r with
  | call f args =>
    intro M0 m w cargs hS ha
    obtain ⟨h1, h2⟩ := k M0 m w cargs hS ha
    refine ⟨h1, h2.mono fun _ _ hb => ?_⟩
    obtain ⟨r, h', m', hR, rest⟩ := hb
    exact ⟨r, h', m', by cases r <;> first | exact h _ hR | exact hq _ _ hR, rest⟩
  | yld l args =>
    refine ⟨k.1, fun M0 m w cargs bl hS ha hbl => ?_⟩
    obtain ⟨f, tmps, as, bd, h1, h2⟩ := k.2 M0 m w cargs bl hS ha hbl
    refine ⟨f, tmps, as, bd, h1, fun c cs => ?_⟩
    obtain ⟨e, w', ⟨r, h', m', hR, rest⟩, hs⟩ := h2 c cs
    exact ⟨e, w', ⟨r, h', m', by cases r <;> first | exact h _ hR | exact hq _ _ hR, rest⟩, hs⟩
  | panic v => exact hq _ _ k
  | val v h' => exact orK_mono (Q := Q') h k
  | skip h' => exact orK_mono (Q := Q') h k
  | dfr d => exact orK_mono (Q := Q') h k
  | recover => exact orK_mono (Q := Q') h k
  | stuck => exact k
theorem wantK_mono {X Y X' Y' : Unit → Prop} {o : Option Bool} (h1 : X () → X' ()) (h2 : Y () → Y' ()) (k : wantK X Y o) : wantK X' Y' o := by
  cases o with
  | none => exact k
  | some b => exact ⟨fun e => h1 (k.1 e), fun e => h2 (k.2 e)⟩
theorem wpOps_mono (hq : ∀ e B, Q e B → Q' e B) : ∀ (l : List Oper) {A : AAct}, wpOps P H ops Q l A → wpOps P H ops Q' l A
  | [], _, k => hq _ _ k
  | o :: rest, A, k => by
    rw [wpOps] at k ⊢
    exact wantK_mono (fun k => orK_mono2 (fun B hB => wpOps_mono hq rest hB) hq k) (fun k => wpOps_mono hq rest k) k
theorem allK_mono {h : Heap} {K K' : AV → Heap → Prop} {r : OR} (hk : ∀ v h, K v h → K' v h) (k : allK h K r) : allK h K' r := by
  cases r <;> first | exact k.elim | exact ⟨k.1, hk _ _ k.2⟩
theorem quK_mono {h : Heap} {K K' : AV → Prop} {r : OR} (hk : ∀ v, K v → K' v) (k : quK P h K r) : quK P h K' r := by
  obtain ⟨v, h1, h2⟩ := quK_iff.1 k
  exact quK_iff.2 ⟨v, h1, hk v h2⟩
theorem slotK_mono {hs h : Heap} {j sz : Nat} {K K' : AV → Heap → Prop} {z : Option AV} (hk : ∀ v h, K v h → K' v h) (k : slotK hs h j sz K z) : slotK hs h j sz K' z := by
  cases z with
  | none => exact k
  | some z => exact ⟨k.1, k.2.1, k.2.2.1, hk _ _ k.2.2.2⟩
theorem skipK_mono {K K' : Heap → Prop} {r : OR} (hk : ∀ h, K h → K' h) (k : skipK K r) : skipK K' r := by
  cases r <;> first | exact k.elim | exact hk _ k
theorem stoK_mono {hs h : Heap} {e : Operand → AV} {K K' : Heap → Prop} {o : Op} (hk : ∀ h, K h → K' h) (k : stoK P hs h e K o) : stoK P hs h e K' o := by
  cases o with
  | store T a x =>
    have k1 : (match e a with | .ptr id ver i o => deadAt hs id = true ∧ skipK K (aStore P T (.ptr id ver i o) (e x) h) | _ => False) := k
    show (match e a with | .ptr id ver i o => deadAt hs id = true ∧ skipK K' (aStore P T (.ptr id ver i o) (e x) h) | _ => False)
    generalize e a = z at k1 ⊢
    cases z <;> first | exact k1.elim | exact ⟨k1.1, skipK_mono hk k1.2⟩
  | _ => exact k.elim
theorem nopK_mono {h : Heap} {e : Operand → AV} {K K' : Prop} {o : Op} (hk : K → K') (k : nopK P h e K o) : nopK P h e K' o := by
  cases o <;> first | exact k.elim | exact ⟨k.1, hk k.2⟩
theorem appK_mono {hs h : Heap} {K K' : AV → Heap → Prop} {r : OR} (hk : ∀ v h, K v h → K' v h) (k : appK hs h K r) : appK hs h K' r := by
  cases r <;> first | exact k.elim | exact ⟨k.1, hk _ _ k.2⟩
theorem thrK_mono {A : AAct} {K K' : AV → Prop} {r : OR} (hq : ∀ e B, Q e B → Q' e B) (hk : ∀ v, K v → K' v) (k : thrK P Q A K r) : thrK P Q' A K' r := by
  cases r <;> first | exact k.elim | skip
  rcases k with ⟨v, h1, h2⟩ | ⟨v, h1, h2⟩
  · exact .inl ⟨v, h1, hk v h2⟩
  · exact .inr ⟨v, h1, fun T => hq _ _ (h2 T)⟩
theorem wpDraw_mono (hq : ∀ e B, Q e B → Q' e B) : ∀ (l : List Oper) {hs : Heap} {A : AAct}, wpDraw P H ops Q l hs A → wpDraw P H ops Q' l hs A
  | [], _, _, k => hq _ _ k
  | o :: rest, hs, A, k => by
    rw [wpDraw] at k ⊢
    refine wantK_mono (fun k => ?_) (fun k => wpDraw_mono hq rest k) k
    cases hc : dcls H o <;> rw [hc] at k
    · exact orK_mono2 (K := fun B => wpDraw P H ops Q rest B.h B) (K' := fun B => wpDraw P H ops Q' rest B.h B) (fun B hB => wpDraw_mono hq rest hB) hq k
    · exact allK_mono (fun v h hh => wpDraw_mono hq rest hh) k
    · exact quK_mono (fun v hh => wpDraw_mono hq rest hh) k
    · exact quK_mono (fun v hh => wpDraw_mono hq rest hh) k
    · exact slotK_mono (fun v h hh => wpDraw_mono hq rest hh) k
    · exact stoK_mono (fun h hh => wpDraw_mono hq rest hh) k
    · exact nopK_mono (fun hh => wpDraw_mono hq rest hh) k
    · exact appK_mono (fun v h hh => wpDraw_mono hq rest hh) k
    · exact thrK_mono hq (fun v hh => wpDraw_mono hq rest hh) k
theorem seqK_mono {K K' : AAct → Prop} (h : ∀ B, K B → K' B) (hq : ∀ e B, Q e B → Q' e B) : ∀ e B, seqK K Q e B → seqK K' Q' e B
  | .normal, _, k => h _ k
  | .exit _, _, k => hq _ _ k
  | .ret, _, k => hq _ _ k
  | .panic _, _, k => hq _ _ k
theorem blockK_mono {id : Nat} (hq : ∀ e B, Q e B → Q' e B) : ∀ e B, blockK id Q e B → blockK id Q' e B
  | .normal, _, k => hq _ _ k
  | .exit j, B, k => by
    have k' : if j = id then Q .normal B else Q (.exit j) B := k
    show if j = id then Q' .normal B else Q' (.exit j) B
    by_cases h : j = id
    · rw [if_pos h] at k' ⊢; exact hq _ _ k'
    · rw [if_neg h] at k' ⊢; exact hq _ _ k'
  | .ret, _, k => hq _ _ k
  | .panic _, _, k => hq _ _ k
theorem loopEnd_mono (hq : ∀ e B, Q e B → Q' e B) {A : AAct} {l : Nat} {o : Option AObj} (k : loopEnd Q A l o) : loopEnd Q' A l o := by
  unfold loopEnd at k ⊢
  split at k
  · refine ⟨k.1, ?_⟩
    have := k.2
    unfold jumpK at this ⊢
    split at this <;> first | exact this.elim | exact hq _ _ this
  · exact k.elim
theorem wp_mono : ∀ (c : Code) {Q Q' : Ex → AAct → Prop} {A : AAct}, (∀ e B, Q e B → Q' e B) → wp P H c Q A → wp P H c Q' A := by
  intro c
  induction c with
  | skip => intro Q Q' A hq k; exact hq _ _ k
  | region id ops draw =>
    intro Q Q' A hq k
    cases draw with
    | false => exact wpOps_mono hq _ k
    | true => exact wpDraw_mono hq _ k
  | seq x y ihx ihy => intro Q Q' A hq k; exact ihx (seqK_mono (fun B hB => ihy hq hB) hq) k
  | cond c x y ihx ihy =>
    intro Q Q' A hq k
    unfold wp condK at k ⊢
    split at k
    · exact ⟨fun e => ihx hq (k.1 e), fun e => ihy hq (k.2 e)⟩
    · exact k.elim
  | block id x ihx => intro Q Q' A hq k; exact ihx (blockK_mono hq) k
  | loop x ihx =>
    intro Q Q' A hq k
    exact fun X hX => k X fun B hB => hX B (ihx (seqK_mono (fun B hB => hB) hq) hB)
  | rangeFunc g ps assign body _ _ =>
    intro Q Q' A hq k
    have gen : ∀ {X Y : Prop} {c : Rc}, (X → Y) → dfrK X c → dfrK Y c := fun hx hc => by
      rename_i c
      cases c <;> first | exact False.elim hc | exact hx hc
    refine gen (fun k => ?_) k
    unfold rangeK at k ⊢
    split at k
    · rename_i gf args hg
      intro M0 m w cargs hS ha
      obtain ⟨h1, h2⟩ := k M0 m w cargs hS ha
      refine ⟨h1, h2.mono fun _ _ hb => ?_⟩
      obtain ⟨r, h', m', hR, rest⟩ := hb
      refine ⟨r, h', m', ?_, rest⟩
      cases r with
      | ret v => exact loopEnd_mono hq hR
      | panic v => exact hq _ _ hR
    · exact k.elim
  | exit id => intro Q Q' A hq k; exact hq _ _ k
  | ret => intro Q Q' A hq k; exact hq _ _ k
  | scope x ihx => intro Q Q' A hq k; exact ihx hq k
  | label id => intro Q Q' A hq k; exact hq _ _ k
  | _ => intro Q Q' A hq k; exact k.elim
theorem wp_loop_unroll {x : Code} {A : AAct} (k : wp P H x (seqK (fun B => wp P H (.loop x) Q B) Q) A) : wp P H (.loop x) Q A := by
  intro X hX
  refine ⟨A, Weak.refl A, hX A (wp_mono x (seqK_mono (fun B hB => ?_) fun _ _ h => h) k)⟩
  exact hB X hX
theorem wp_loop_inv {x : Code} {A : AAct} {σ : Type} (I : σ → AAct) (μ : σ → Nat) (s0 : σ) (h0 : Weak P A (I s0)) (hs : ∀ s, wp P H x (seqK (fun B => ∃ s', μ s' < μ s ∧ Weak P B (I s')) Q) (I s)) : wp P H (.loop x) Q A := by
  intro X hX
  have key : ∀ (j : Nat) (s : σ), μ s = j → X (I s) := by
    intro j
    induction j using Nat.strongRecOn with
    | _ j ih =>
      intro s hj
      refine hX _ (wp_mono x (seqK_mono (fun B hB => ?_) fun _ _ h => h) (hs s))
      obtain ⟨s', h1, h2⟩ := hB
      exact ⟨_, h2, ih (μ s') (hj ▸ h1) s' rfl⟩
  exact ⟨_, h0, key _ s0 rfl⟩
def keepT : List (Nat × AV) → Nat → AV
  | [], _ => .undef
  | (k, v) :: l, t => if t = k then v else keepT l t
theorem keepT_nil (t : Nat) : keepT [] t = .undef := rfl
theorem keepT_cons (k : Nat) (v : AV) (l : List (Nat × AV)) (t : Nat) : keepT ((k, v) :: l) t = if t = k then v else keepT l t := rfl
theorem keepT_at : ∀ (l : List (Nat × AV)) (t : Nat), keepT l t = .undef ∨ (t, keepT l t) ∈ l
  | [], _ => .inl rfl
  | (k, v) :: l, t => by
    rw [keepT_cons]
    by_cases h : t = k
    · subst h; rw [if_pos rfl]; exact .inr (by simp)
    · rw [if_neg h]
      rcases keepT_at l t with h1 | h1
      · exact .inl h1
      · exact .inr (List.mem_cons_of_mem _ h1)
theorem weak_keep {A : AAct} (l : List (Nat × AV)) (h : ∀ p, p ∈ l → A.tmps p.1 = p.2) : Weak P A { A with tmps := keepT l } :=
  weak_tmps fun t => by
    rcases keepT_at l t with h1 | h1
    · exact .inr h1
    · exact .inl (h _ h1).symm
def headK {σ : Type} (P : Program) (V : σ → Prop) (I : σ → AAct) (μ : σ → Nat) (s : σ) : AAct → Prop := fun B => ∃ s', V s' ∧ μ s' < μ s ∧ Weak P B (I s')
theorem W_loop {σ : Type} {x : Code} {A : AAct} (V : σ → Prop) (I : σ → AAct) (μ : σ → Nat) (s0 : σ) (hv : V s0) (h0 : Weak P A (I s0)) (hs : ∀ s, V s → @W ⟨P, H, x, seqK (headK P V I μ s) Q⟩ (I s)) : @W ⟨P, H, .loop x, Q⟩ A := by
  refine wp_loop_inv (σ := { s : σ // V s }) (fun s => I s.1) (fun s => μ s.1) ⟨s0, hv⟩ h0 fun s => ?_
  refine wp_mono x (seqK_mono (fun B hB => ?_) fun _ _ h => h) (hs s.1 s.2)
  obtain ⟨s', h1, h2, h3⟩ := hB
  exact ⟨⟨s', h1⟩, h2, h3⟩
theorem W_unroll {x : Code} {A : AAct} (k : @W ⟨P, H, x, seqK (wp P H (.loop x) Q) Q⟩ A) : @W ⟨P, H, .loop x, Q⟩ A := wp_loop_unroll k
theorem getD0 (a : TypeId) (l : List TypeId) : (List.toArray (a :: l)).getD 0 0 = a := rfl
theorem getD1 (a b : TypeId) (l : List TypeId) : (List.toArray (a :: b :: l)).getD 1 0 = b := rfl
end Abs
end Go.Proofs.YtbojkcmohgbpaaaGreatDoor
