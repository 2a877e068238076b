/-
  LAWS: builders of one's own: what is written into them, what they are read as. No conditions but those in the theorems' heads.
-/
import Derived.Test.YtdellinghbppgaaGreatDoorAbsKill
import Derived.Lib.UnsafeStr
namespace Go.Proofs.YtdellinghbppgaaGreatDoor
namespace Abs
variable {P : Program} {M0 : Nat → Prop}

/-- only this block is written -/
structure OnlyB (b : Nat) (w w' : World) : Prop where
  os : w'.os = w.os
  tape : w'.tape = w.tape
  output : w'.output = w.output
  size : w'.heap.size = w.heap.size
  block : ∀ k, k ≠ b → w'.heap[k]? = w.heap[k]?
theorem OnlyB.refl (b : Nat) (w : World) : OnlyB b w w := ⟨rfl, rfl, rfl, rfl, fun _ _ => rfl⟩
theorem onlyB_setCell (w : World) (b i : Nat) (v : Value) : OnlyB b w (w.setCell ⟨b, i, none⟩ v) :=
  ⟨rfl, rfl, rfl, by simp [World.setCell], fun k hk => Go.RowKit.Below.heap_setCell _ _ _ _ hk⟩

theorem bld_ok {S : Mem} (hS : HOk P M0 S) {i b : Nat} {T e : TypeId} {x x' : AV} {p p' v v' : Value} {w' : World} (hid : S.h[i]? = some (.bld T e x)) (hm : S.m.getD i none = some b)
    (hb : S.w.heap[b]? = some (.cells #[p, v] T (0, 0))) (hw : OnlyB b S.w w') (hb' : w'.heap[b]? = some (.cells #[p', v'] T (0, 0))) (hp : p' = .pointer none ∨ p' = .pointer (some ⟨b, 0, none⟩))
    (hx : x' = .p .nilslice ∨ ∃ j n, x' = .slice j n 0 n) (hr : Rep0 M0 S v' x') (hs : ∀ a n c, v' = .slice (some a) n c → ∃ N, S.w.shape? a.block = some (e, N)) :
    HOk P M0 ⟨S.m, S.h.set i (.bld T e x'), w'⟩ ∧ Ev S.h.length S ⟨S.m, S.h.set i (.bld T e x'), w'⟩ := by
  have hidlt := (List.getElem?_eq_some_iff.1 hid).1
  have hown : Own S.m b := List.mem_of_getElem? (getD_some_get hm)
  have hsh : ∀ c, w'.shape? c = S.w.shape? c := by
    intro c
    by_cases hc : c = b
    · subst hc
      simp [World.shape?, hb, hb']
    · simp only [World.shape?, hw.block c hc]
  have he : Ev S.h.length S ⟨S.m, S.h.set i (.bld T e x'), w'⟩ :=
    { fr := ⟨hw.os, hw.tape, hw.output, Nat.le_of_eq hw.size.symm, fun c _ hn => hw.block c (fun h => hn (h ▸ hown)), fun c _ => hsh c⟩
      sub := fun c h => .inl h
      obj := fun y oy hy hoy => by
        by_cases hyi : y = i
        · subst hyi
          rw [hid] at hoy; cases hoy
          exact ⟨.bld T e x', by simp [hidlt], .inr (.inr ⟨by simp [AObj.tag], rfl, rfl⟩)⟩
        · exact ⟨oy, by simp [List.getElem?_set_ne (Ne.symm hyi), hoy], ObjEv.refl _ _⟩ }
  refine ⟨?_, he⟩
  exact
    { len := by simpa using hS.len
      lt := fun c h => Nat.lt_of_lt_of_le (hS.lt c h) he.fr.size
      m0 := fun c h => ⟨Nat.lt_of_lt_of_le (hS.m0 c h).1 he.fr.size, (hS.m0 c h).2⟩
      inj := hS.inj
      gl := he.glob hS.gl
      obj := fun y oy hoy => by
        by_cases hyi : y = i
        · subst hyi
          have hoy' : (S.h.set y (.bld T e x'))[y]? = some oy := hoy
          rw [List.getElem?_set_self hidlt] at hoy'
          cases hoy'
          exact ⟨b, p', v', hm, hb', hp, hx, he.rep0 hr (rep0_below hr), fun a n c hv => let ⟨N, hN⟩ := hs a n c hv; ⟨N, (hsh _).trans hN⟩⟩
        · have hoy' : (S.h.set i (.bld T e x'))[y]? = some oy := hoy
          rw [List.getElem?_set_ne (Ne.symm hyi)] at hoy'
          refine (hS.obj y oy hoy').keep he fun c hc => hw.block c fun h => hyi ?_
          subst h
          exact hS.inj y i c (getD_some_get hc) (getD_some_get hm) }

theorem same_set {h : Heap} {i : Nat} {o : AObj} (hid : h[i]? = some o) : h.set i o = h := set_same hid

/-- of what the row behind an append of a text is made -/
theorem append_shape {S : Mem} (hS : HOk P M0 S) {T U e ty : TypeId} {x : AV} {v v2 : Value} {s : ByteArray} {w2 : World} (hx : x = .p .nilslice ∨ ∃ j n xs, x = .slice j n 0 n ∧ S.h[j]? = some (.row 1 xs) ∧ xs.length = n ∧ n + s.size ≤ room)
    (hs0 : s.size ≤ room) (hr : Rep0 M0 S v x) (hT : sliceT P T = some e) (hU : isStringT P U = true) (hsz : sizeT P e = some 1) (hby : bytesT P e = some 1) (hz : hasZero P e 1 = true)
    (hsh : ∀ a n c, v = .slice (some a) n c → ∃ N, S.w.shape? a.block = some (e, N)) (hrun : (Builtin.append_ #[T, U] ty #[v, .string s]).run P S.w = .ok v2 w2) (hev : ∀ b, b < S.w.heap.size → w2.shape? b = S.w.shape? b) :
    ∀ a n c, v2 = .slice (some a) n c → ∃ N, w2.shape? a.block = some (e, N) := by
  have hTu := sliceT_some hT
  have hUu : (∃ f, P.underlying U = some (.slice f)) ∨ P.underlying U = some .string := .inr (isStringT_some hU)
  have hstr : Rep M0 S (.string s) (.p (.str s)) := RepP.str s
  obtain ⟨D, hlen, hD, hDs, hDel⟩ := elemsOf_ok (P := P) hS (y := .p (.str s)) (sz := 1) (ys := s.data.toList.map fun b : UInt8 => AV.p (PV.int .u8 (b.toNat : Int))) hstr (by unfold aElemsOf; exact if_pos rfl)
  have hyl : (s.data.toList.map fun b : UInt8 => AV.p (PV.int .u8 (b.toNat : Int))).length = s.size := by rw [List.length_map]; exact Array.length_toList
  rw [hyl] at hlen hD hDs
  have key : ∀ (base : Option Addr) (n cap : Nat) (O : Array Value), n + s.size ≤ room → cap < n + s.size → v = .slice base n cap → (Builtin.firstCells 1 n (.slice base n cap)).run P S.w.drew = .ok O S.w.drew →
      ∀ a n c, v2 = .slice (some a) n c → ∃ N, w2.shape? a.block = some (e, N) := by
    intro base n cap O hroom hlt hv hO a n' c hv2
    subst hv
    obtain ⟨nc, R, hnc, hR, hrun2⟩ := run_append_grow (ty := ty) hTu hUu hsz hby (by omega) hz hroom hlt S.w hlen hO (hD _ rfl)
    rw [hrun2] at hrun
    cases hrun
    cases hv2
    refine ⟨(O ++ D ++ R).size, ?_⟩
    show (S.w.drew.alloc _).shape? S.w.drew.heap.size = _
    unfold World.shape?
    rw [heap_alloc_eq]
  have nil : v = .slice none 0 0 → ∀ a n c, v2 = .slice (some a) n c → ∃ N, w2.shape? a.block = some (e, N) := by
    intro hv
    rcases Nat.eq_zero_or_pos s.size with h0 | h0
    · subst hv
      intro a n c hv2
      have := run_append_nil (ty := ty) hTu hUu hsz S.w (by rw [hlen, h0]) (by have := hD S.w rfl; rw [h0] at this; exact this)
      rw [this] at hrun
      cases hrun
      cases hv2
    · exact key none 0 0 #[] (by omega) (by omega) hv rfl
  rcases hx with rfl | ⟨j, n, xs, rfl, hj, hn, hroom⟩
  · have h' : RepP (Avoid M0 S.m) S.w v .nilslice := hr
    cases h'
    exact nil rfl
  · obtain ⟨O, hlo, hO, hOs, hOel⟩ := elemsOf_ok (P := P) (y := .slice j n 0 n) (v := v) (ys := xs) (sz := 1) hS hr (by simp [aElemsOf, hj, hn, sub, List.take_of_length_le (Nat.le_of_eq hn)])
    rcases live_row hr.2 hj hn with ⟨h1, h2, h3, _⟩ | ⟨b, cap, T', N, hm, rfl, hcap, hsh2, hfit, hreach⟩ | ⟨_, rfl, h0⟩
    · omega
    · rcases Nat.lt_or_ge cap (n + s.size) with hlt | hge
      · have := hO S.w.drew rfl
        rw [hn] at this
        exact key _ n cap O hroom hlt rfl (by simpa using this)
      · obtain ⟨C, T2, hb2, hsize2, hel2⟩ := row_block hS hj hm
        have hNC : N = C.size := by
          unfold World.shape? at hsh2
          rw [hb2] at hsh2
          simp at hsh2
          exact hsh2.2.symm
        have hrun2 := run_append_room (ty := ty) (cap := cap) hTu hUu hsz hge S.w hlen (hD _ rfl) (by simpa using hb2) (by rw [hDs]; omega) (elems_one hyl (by rw [hDs]) hDel)
        have hv : (Value.slice (some ⟨b, 0 * 1, none⟩) n cap) = .slice (some ⟨b, 0, none⟩) n cap := by rw [Nat.zero_mul]
        rw [hv, hrun2] at hrun
        intro a n' c hv2
        cases hrun
        cases hv2
        obtain ⟨N', hN'⟩ := hsh _ _ _ rfl
        exact ⟨N', (hev _ (shape_lt hN')).trans hN'⟩
    · subst h0
      exact nil rfl

end Abs
end Go.Proofs.YtdellinghbppgaaGreatDoor
