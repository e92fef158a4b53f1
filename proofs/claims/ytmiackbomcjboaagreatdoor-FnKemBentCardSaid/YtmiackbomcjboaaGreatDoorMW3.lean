/- A row of bytes that the call owns, whatever its mark is behind its cells: '[]byte(text)', written on by append. -/
import Derived.Test.YtmiackbomcjboaaGreatDoorV0
import Derived.Laws.CopyOwn
namespace Go.Proofs.YtmiackbomcjboaaGreatDoor.Kit
open Go.RowKit YtmiackbomcjboaaGreatDoorW.PrintWords

/-- A text's bytes. -/
def bl (s : ByteArray) : List Int := s.data.toList.map fun b => (b.toNat : Int)
theorem dH (s : ByteArray) : (bl s).length = s.size := (List.length_map ..).trans Array.length_toList
theorem kr (s : ByteArray) : strOfNums (bl s) = s := by
  cases s with
  | mk d =>
    simp only [strOfNums, bl, List.map_map]
    congr 1
    have : (fun n : Int => UInt8.ofNat n.toNat) ∘ (fun b : UInt8 => (b.toNat : Int)) = id := by funext b; simp
    rw [this]; simp

/-- The slice value v owns the bytes xs: they can be read, and what is behind them can be written. -/
def cK (w : World) (base : Nat) (v : Value) (xs : List Int) : Prop :=
  ∃ g cap, v = .slice (some ⟨g, 0, none⟩) xs.length cap ∧ base ≤ g ∧ g < w.heap.size ∧ xs.length ≤ cap ∧ (∀ j, j < xs.length → w.cell? ⟨g, j, none⟩ = some (.int .u8 (xs.getD j 0))) ∧
    ∀ j, j < cap → (w.cell? ⟨g, j, none⟩).isSome = true ∧ w.frozen? ⟨g, j, none⟩ = false
theorem cK.below {w w1 : World} {base : Nat} {v : Value} {xs : List Int} (h : cK w base v xs) (hb : Below w.heap.size w w1) : cK w1 base v xs := by
  obtain ⟨g, cap, hv, h1, h2, h3, h4, h5⟩ := h
  exact ⟨g, cap, hv, h1, Nat.lt_of_lt_of_le h2 hb.size, h3, fun j hj => (hb.cell (p := ⟨g, j, none⟩) h2).trans (h4 j hj), fun j hj => by rw [hb.cell (p := ⟨g, j, none⟩) h2, hb.frozen (p := ⟨g, j, none⟩) h2]; exact h5 j hj⟩
theorem cK.at {w : World} {base g m cap : Nat} {xs : List Int} (h : cK w base (.slice (some ⟨g, 0, none⟩) m cap) xs) (j : Nat) (hj : j < xs.length) : w.cell? ⟨g, j, none⟩ = some (.int .u8 (xs.getD j 0)) := by
  obtain ⟨g', cap', hv, _, _, _, h4, _⟩ := h
  injection hv with ha _ _
  injection ha with ha
  injection ha with ha _ _
  subst ha
  exact h4 j hj
theorem cK.lower {w : World} {base base' : Nat} {v : Value} {xs : List Int} (h : cK w base v xs) (hb : base' ≤ base) : cK w base' v xs := by
  obtain ⟨g, cap, hv, h1, h2⟩ := h
  exact ⟨g, cap, hv, Nat.le_trans hb h1, h2⟩
theorem cK.conv (w : World) (e : TypeId) (s : ByteArray) : cK (Lib.bytesWorld w e s) w.heap.size (.slice (some ⟨w.heap.size, 0, none⟩) s.size (grownCap w s.size 0 e)) (bl s) := by
  have hge := grownCap_ge w s.size 0 e
  have hs : (Lib.bytesCells w e s).size = grownCap w s.size 0 e := by
    simp only [Lib.bytesCells, Array.size_append, Array.size_map, Array.size_replicate]
    show s.size + _ = _
    omega
  refine ⟨w.heap.size, grownCap w s.size 0 e, by rw [dH], Nat.le_refl _, by rw [Lib.bytesWorld_size]; omega, by rw [dH]; exact hge, fun j hj => ?_, fun j hj => ⟨?_, ?_⟩⟩
  · rw [dH] at hj
    rw [Lib.bytesWorld_cell w e s j hj]
    have hj' : j < s.data.toList.length := by rw [Array.length_toList]; exact hj
    simp only [bl, List.getD, List.getElem?_map, List.getElem?_eq_getElem hj', Option.map_some, Option.getD_some]
  · rw [cell_of_row _ _ j _ _ _ (Lib.bytesWorld_at_new w e s)]
    simp [hs, hj]
  · simp only [World.frozen?, Lib.bytesWorld_at_new, hs]
    simp; omega
theorem fd (w : World) (e : TypeId) (s : ByteArray) : Below w.heap.size w (Lib.bytesWorld w e s) := by
  refine ⟨?_, ?_, ?_, by rw [Lib.bytesWorld_size]; omega, fun j hj => Lib.bytesWorld_at_old w e s j hj⟩ <;> simp [Lib.bytesWorld, World.freeze, World.alloc, World.drew, -World.alloc_eq, -World.drew_eq]
theorem hH {w w1 : World} (h : w.grownBy w1 none) : Below w.heap.size w w1 := ⟨h.os, h.tape, h.output, h.size, fun k hk => h.block k hk (by simp)⟩
theorem cK.of_row {w : World} {base n : Nat} {e : TypeId} {v : Value} {xs : List Int} (hn : 0 < n) (hx : xs.length = n) (h : w.ownsRow base e 1 v n (xs.map (Value.int .u8))) : cK w base v xs := by
  rcases h.2 with ⟨_, rfl⟩ | ⟨g, cap, cur, hv, hb, hg, hnc, _, hcs, htake⟩
  · omega
  · have hlt : g < w.heap.size := (Array.getElem?_eq_some_iff.1 hg).1
    refine ⟨g, cap, by rw [hx]; exact hv, hb, hlt, by omega, fun j hj => ?_, fun j hj => ⟨?_, frozen_of_row w g j _ e hg⟩⟩
    · rw [cell_of_row w g j _ _ _ hg]
      have h2 : (cur.toList.take (n * 1))[j]? = some (.int .u8 (xs.getD j 0)) := by rw [htake]; simp [List.getD, hj]
      rw [List.getElem?_take] at h2
      split at h2
      · simpa using h2
      · cases h2
    · rw [cell_of_row w g j _ _ _ hg]
      simp [hcs, hj]
theorem cK.put {w : World} {base g cap : Nat} {xs : List Int} (u : Int) (h1 : base ≤ g) (h2 : g < w.heap.size) (h3 : xs.length + 1 ≤ cap) (h4 : ∀ j, j < xs.length → w.cell? ⟨g, j, none⟩ = some (.int .u8 (xs.getD j 0)))
    (h5 : ∀ j, j < cap → (w.cell? ⟨g, j, none⟩).isSome = true ∧ w.frozen? ⟨g, j, none⟩ = false) : cK (w.setCells g (0 + xs.length * 1) [.int .u8 u]) base (.slice (some ⟨g, 0, none⟩) (xs.length + 1) cap) (xs ++ [u]) := by
  have hs : ∀ j, j < ([.int .u8 u] : List Value).length → (w.cell? ⟨g, 0 + xs.length * 1 + j, none⟩).isSome = true := fun j hj => (h5 _ (by simp at hj; omega)).1
  refine ⟨g, cap, by simp, h1, by simp [World.setCells, World.setCell]; exact h2, by simp; omega, fun j hj => ?_, fun j hj => ⟨?_, ?_⟩⟩
  · by_cases hjx : j < xs.length
    · rw [World.cell?_setCells_out g _ _ w ⟨g, j, none⟩ (fun _ _ => Or.inl (by show j < _; omega)), h4 j hjx]
      simp only [List.getD, List.getElem?_append_left hjx]
    · have hjx' : j = xs.length := by simp at hj; omega
      subst hjx'
      have := World.cell?_setCells_in g [.int .u8 u] (0 + xs.length * 1) w hs 0 (by simp)
      simp only [Nat.add_zero, Nat.zero_add, Nat.mul_one] at this ⊢
      rw [this]
      simp
  · by_cases hjx : j = xs.length
    · subst hjx
      have := World.cell?_setCells_in g [.int .u8 u] (0 + xs.length * 1) w hs 0 (by simp)
      simp only [Nat.add_zero, Nat.zero_add, Nat.mul_one] at this ⊢
      rw [this]; rfl
    · rw [World.cell?_setCells_out g _ _ w ⟨g, j, none⟩ (fun _ _ => by show j < _ ∨ _ ≤ j; simp; omega)]
      exact (h5 j hj).1
  · show (w.setCell _ _).frozen? _ = _
    rw [World.frozen?_setCell]
    exact (h5 j hj).2
section
variable {P : Program} {ops : Array Oper} {rest : List Oper} {o : Oper} {a : Act} {w : World} {Q : Exit → Act → World → Prop}
/-- One byte appended. -/
theorem qL (hgd : o.guard = none) (s x : Operand) (t : TypeId) (ho : o.op = .call { callee := .builtin .append, args := #[s, x], argTypes := #[t, t] })
    (e : TypeId) (i : TypeInfo) (h1 : P.underlying t = some (.slice e)) (h2 : P.info? e = some i) (h3 : i.zero = some (.int .u8 0)) (h4 : i.size = 1) (h5 : i.bytes = 1)
    (base : Nat) {v : Value} {xs : List Int} (hs : a.eval s = v) (hown : cK w base v xs) (hbase : base ≤ w.heap.size) (b c : Nat) (u : Int) (hx : a.eval x = .slice (some ⟨b, 0, none⟩) 1 c) (hc : w.cell? ⟨b, 0, none⟩ = some (.int .u8 u)) (hl : xs.length < 100000000000000)
    (h : ∀ v' w', cK w' base v' (xs ++ [u]) → Below base w w' → wpList P ops Q rest (a.put o.dst v') w') : wpList P ops Q (o :: rest) a w := by
  obtain ⟨g, cap, rfl, k1, k2, k3, k4, k5⟩ := hown
  refine wpList_append_arg w hgd s x t ho e i (.int .u8 0) 1 1 h1 h2 h3 h4 h5 rfl (by decide) g 0 xs.length cap (xs.map (Value.int .u8)) hs (by simp) (fun j y hj => ?_) ⟨b, 0, none⟩ 1 c [.int .u8 u] hx rfl (fun j y hj => ?_) (fun y hy => by simp at hy; subst hy; rfl) (fun hr j hj => ?_) (by simp only [maxLen]; omega) (by omega) (fun hr => ?_) (fun hg v' w' hrow hgr => ?_)
  · rw [List.getElem?_map] at hj
    cases hq : xs[j]? with
    | none => simp [hq] at hj
    | some z =>
      simp [hq] at hj
      subst hj
      have hlt := (List.getElem?_eq_some_iff.1 hq).1
      rw [Nat.zero_add, k4 j hlt]
      simp [List.getD, hq]
  · cases j with
    | zero => simp at hj; subst hj; exact hc
    | succ j => simp at hj
  · have : j = 0 := by simpa using hj
    subst this
    simp only [Nat.zero_add, Nat.mul_one, Nat.add_zero]
    exact k5 _ (by omega)
  · exact h _ _ (cK.put u k1 k2 hr k4 k5) ((Below.refl base w).setCell (p := ⟨g, _, none⟩) k1 _)
  · refine h _ _ ?_ ((hH hgr).mono hbase)
    refine (cK.of_row (n := xs.length + 1) (by omega) (by simp) (e := e) (base := w.heap.size) ?_).lower hbase
    simpa using hrow
/-- One byte, built as a slice of its own, appended. -/
theorem fT (hgd : o.guard = none) (s x : Operand) (t : TypeId) (ho : o.op = .call { callee := .builtin .append, args := #[s, x], argTypes := #[t, t] })
    (e : TypeId) (h1 : P.underlying t = some (.slice e)) (hi : (P.info? e).map (fun i => (i.zero, i.size, i.bytes)) = some (some (.int .u8 0), 1, 1))
    (base : Nat) {W : World} {v : Value} {xs : List Int} {u : Int} {e' : TypeId} (hw : w = W.alloc (.cells #[.int .u8 u] e')) (hs : a.eval s = v) (hown : cK W base v xs) (hbase : base ≤ W.heap.size) (c : Nat) (hx : a.eval x = .slice (some ⟨W.heap.size, 0, none⟩) 1 c) (hl : xs.length < 100000000000000)
    (h : ∀ v' w', cK w' base v' (xs ++ [u]) → Below base W w' → wpList P ops Q rest (a.put o.dst v') w') : wpList P ops Q (o :: rest) a w := by
  subst hw
  cases hq : P.info? e with
  | none => simp [hq] at hi
  | some i =>
    have hi' : i.zero = some (.int .u8 0) ∧ i.size = 1 ∧ i.bytes = 1 := by simpa [hq] using hi
    have hb : Below W.heap.size W (W.alloc (.cells #[.int .u8 u] e')) := (Below.refl _ _).alloc (Nat.le_refl _) _
    refine qL hgd s x t ho e i h1 hq hi'.1 hi'.2.1 hi'.2.2 base hs (hown.below hb) (by simp; omega) W.heap.size c u hx ?_ hl (fun v' w' k1 k2 => h v' w' k1 ((hb.mono hbase).trans k2))
    rw [cell_of_row _ _ 0 _ _ _ (heap_alloc_new W _)]
    rfl
end
end Go.Proofs.YtmiackbomcjboaaGreatDoor.Kit
