/- Rows of bytes that the call owns: made by make, written, read as a text. -/
import Derived.Test.YtmiackbomcjboaaGreatDoorMW3
namespace Go.Proofs.YtmiackbomcjboaaGreatDoor.Kit
open Go.RowKit YtmiackbomcjboaaGreatDoorW.PrintWords YtmiackbomcjboaaGreatDoorW.PrintLast YtmiackbomcjboaaGreatDoorW.PrintMore

theorem cK.of_R {w : World} {base : Nat} {e : Nat} {ok : Nat → Prop} {v : Value} {xs : List Int} (h : (Kd.int .u8).R e w base ok v xs) (hx : 0 < xs.length) : cK w base v xs :=
  cK.of_row hx rfl (Kd.vl (enc := Value.int .u8) (h1 := fun _ => rfl) h)
theorem cK.cells {w : World} {base g n cap : Nat} {xs : List Int} (h : cK w base (.slice (some ⟨g, 0, none⟩) n cap) xs) : n = xs.length ∧ base ≤ g ∧ g < w.heap.size ∧ xs.length ≤ cap ∧ (∀ j, j < xs.length → w.cell? ⟨g, j, none⟩ = some (.int .u8 (xs.getD j 0))) ∧ ∀ j, j < cap → (w.cell? ⟨g, j, none⟩).isSome = true ∧ w.frozen? ⟨g, j, none⟩ = false := by
  obtain ⟨g', cap', hv, h1, h2, h3, h4, h5⟩ := h
  injection hv with ha hn hc
  injection ha with ha
  injection ha with ha _ _
  subst ha hc
  exact ⟨hn, h1, h2, h3, h4, h5⟩
theorem cK.froz {w : World} {base g n cap : Nat} {xs : List Int} (h : cK w base (.slice (some ⟨g, 0, none⟩) n cap) xs) (j : Nat) (hj : j < xs.length) : w.frozen? ⟨g, j, none⟩ = false := by
  obtain ⟨_, _, _, h3, _, h5⟩ := h.cells
  exact (h5 j (by omega)).2
theorem cK.set {w : World} {base g n cap : Nat} {xs : List Int} (h : cK w base (.slice (some ⟨g, 0, none⟩) n cap) xs) (j : Nat) (hj : j < xs.length) (u : Int) : cK (w.setCell ⟨g, j, none⟩ (.int .u8 u)) base (.slice (some ⟨g, 0, none⟩) n cap) (xs.set j u) := by
  obtain ⟨hn, h1, h2, h3, h4, h5⟩ := h.cells
  have hs : ∀ i, i < ([.int .u8 u] : List Value).length → (w.cell? ⟨g, j + i, none⟩).isSome = true := fun i hi => by
    have : i = 0 := by simpa using hi
    subst this
    exact (h5 _ (by omega)).1
  show cK (w.setCells g j [.int .u8 u]) base _ _
  have hin : (w.setCells g j [.int .u8 u]).cell? ⟨g, j, none⟩ = some (.int .u8 u) := by
    have := World.cell?_setCells_in g [.int .u8 u] j w hs 0 (by simp)
    simpa using this
  refine ⟨g, cap, by rw [List.length_set, hn], h1, by simp [World.setCells, World.setCell]; exact h2, by rw [List.length_set]; exact h3, fun i hi => ?_, fun i hi => ⟨?_, ?_⟩⟩
  · rw [List.length_set] at hi
    by_cases hij : i = j
    · subst hij
      rw [hin]
      simp [List.getD, hi]
    · rw [World.cell?_setCells_out g _ _ w ⟨g, i, none⟩ (fun _ _ => by show i < _ ∨ _ ≤ i; simp; omega), h4 i hi]
      simp [List.getD, List.getElem?_set_ne (Ne.symm hij)]
  · by_cases hij : i = j
    · subst hij
      rw [hin]; rfl
    · rw [World.cell?_setCells_out g _ _ w ⟨g, i, none⟩ (fun _ _ => by show i < _ ∨ _ ≤ i; simp; omega)]
      exact (h5 i hi).1
  · show (w.setCell _ _).frozen? _ = _
    rw [World.frozen?_setCell]
    exact (h5 i hi).2
theorem cK.drew {w : World} {base : Nat} {v : Value} {xs : List Int} (h : cK w base v xs) : cK w.drew base v xs := h.below (dq (Below.refl _ _))
theorem cK.drewN {w : World} {base : Nat} {v : Value} {xs : List Int} (h : cK w base v xs) (n : Nat) : cK (w.drewN n) base v xs := h.below (bH (Below.refl _ _) n)
theorem cK.far {w : World} {base g n cap : Nat} {xs : List Int} (h : cK w base (.slice (some ⟨g, 0, none⟩) n cap) xs) {p : Addr} (hp : p.block ≠ g) (u : Value) : cK (w.setCell p u) base (.slice (some ⟨g, 0, none⟩) n cap) xs := by
  obtain ⟨hn, h1, h2, h3, h4, h5⟩ := h.cells
  have hb : (w.setCell p u).heap[g]? = w.heap[g]? := heap_setCell_other w p g u (Ne.symm hp)
  have hc : ∀ j, (w.setCell p u).cell? ⟨g, j, none⟩ = w.cell? ⟨g, j, none⟩ := fun j => World.cell?_of_block (w := w) (a := ⟨g, j, none⟩) hb
  have hf : ∀ j, (w.setCell p u).frozen? ⟨g, j, none⟩ = w.frozen? ⟨g, j, none⟩ := fun j => World.frozen?_of_block (w := w) (a := ⟨g, j, none⟩) hb
  exact ⟨g, cap, by rw [hn], h1, (Array.getElem?_eq_some_iff.1 (hb.trans (Array.getElem?_eq_getElem h2))).1, h3, fun j hj => (hc j).trans (h4 j hj), fun j hj => by rw [hc, hf]; exact h5 j hj⟩
end Go.Proofs.YtmiackbomcjboaaGreatDoor.Kit
namespace Go.Proofs.YtmiackbomcjboaaGreatDoor.Kit
open Go.RowKit YtmiackbomcjboaaGreatDoorW.PrintWords YtmiackbomcjboaaGreatDoorW.PrintLast YtmiackbomcjboaaGreatDoorW.PrintMore
/-- The slice value v owns the numbers xs (of kind k). -/
def eG (k : IntKind) (w : World) (base : Nat) (v : Value) (xs : List Int) : Prop :=
  ∃ g cap, v = .slice (some ⟨g, 0, none⟩) xs.length cap ∧ base ≤ g ∧ g < w.heap.size ∧ xs.length ≤ cap ∧ (∀ j, j < xs.length → w.cell? ⟨g, j, none⟩ = some (.int k (xs.getD j 0))) ∧
    ∀ j, j < cap → (w.cell? ⟨g, j, none⟩).isSome = true ∧ w.frozen? ⟨g, j, none⟩ = false
theorem eG.cells {k : IntKind} {w : World} {base g n cap : Nat} {xs : List Int} (h : eG k w base (.slice (some ⟨g, 0, none⟩) n cap) xs) : n = xs.length ∧ base ≤ g ∧ g < w.heap.size ∧ xs.length ≤ cap ∧ (∀ j, j < xs.length → w.cell? ⟨g, j, none⟩ = some (.int k (xs.getD j 0))) ∧ ∀ j, j < cap → (w.cell? ⟨g, j, none⟩).isSome = true ∧ w.frozen? ⟨g, j, none⟩ = false := by
  obtain ⟨g', cap', hv, h1, h2, h3, h4, h5⟩ := h
  injection hv with ha hn hc
  injection ha with ha
  injection ha with ha _ _
  subst ha hc
  exact ⟨hn, h1, h2, h3, h4, h5⟩
theorem eG.of_row {k : IntKind} {w : World} {base n : Nat} {e : TypeId} {v : Value} {xs : List Int} (hn : 0 < n) (hx : xs.length = n) (h : w.ownsRow base e 1 v n (xs.map (Value.int k))) : eG k w base v xs := by
  rcases h.2 with ⟨_, rfl⟩ | ⟨g, cap, cur, hv, hb, hg, hnc, _, hcs, htake⟩
  · omega
  · have hlt : g < w.heap.size := (Array.getElem?_eq_some_iff.1 hg).1
    refine ⟨g, cap, by rw [hx]; exact hv, hb, hlt, by omega, fun j hj => ?_, fun j hj => ⟨?_, frozen_of_row w g j _ e hg⟩⟩
    · rw [cell_of_row w g j _ _ _ hg]
      have h2 : (cur.toList.take (n * 1))[j]? = some (.int k (xs.getD j 0)) := by rw [htake]; simp [List.getD, hj]
      rw [List.getElem?_take] at h2
      split at h2
      · simpa using h2
      · cases h2
    · rw [cell_of_row w g j _ _ _ hg]
      simp [hcs, hj]
theorem eG.of_R {k : IntKind} {w : World} {base : Nat} {e : Nat} {ok : Nat → Prop} {v : Value} {xs : List Int} (h : (Kd.int k).R e w base ok v xs) (hx : 0 < xs.length) : eG k w base v xs :=
  eG.of_row hx rfl (Kd.vl (enc := Value.int k) (h1 := fun _ => rfl) h)
theorem eG.keep {k : IntKind} {w w1 : World} {base g n cap B : Nat} {xs : List Int} (h : eG k w base (.slice (some ⟨g, 0, none⟩) n cap) xs) (hg : g < B) (hb : Below B w w1) : eG k w1 base (.slice (some ⟨g, 0, none⟩) n cap) xs := by
  obtain ⟨hn, h1, h2, h3, h4, h5⟩ := h.cells
  exact ⟨g, cap, by rw [hn], h1, Nat.lt_of_lt_of_le h2 hb.size, h3, fun j hj => (hb.cell (p := ⟨g, j, none⟩) hg).trans (h4 j hj), fun j hj => by rw [hb.cell (p := ⟨g, j, none⟩) hg, hb.frozen (p := ⟨g, j, none⟩) hg]; exact h5 j hj⟩
theorem eG.below {k : IntKind} {w w1 : World} {base : Nat} {v : Value} {xs : List Int} (h : eG k w base v xs) (hb : Below w.heap.size w w1) : eG k w1 base v xs := by
  obtain ⟨g, cap, rfl, h1, h2, h3⟩ := h
  exact eG.keep ⟨g, cap, rfl, h1, h2, h3⟩ h2 hb
theorem eG.lower {k : IntKind} {w : World} {base base' : Nat} {v : Value} {xs : List Int} (h : eG k w base v xs) (hb : base' ≤ base) : eG k w base' v xs := by
  obtain ⟨g, cap, hv, h1, h2⟩ := h
  exact ⟨g, cap, hv, Nat.le_trans hb h1, h2⟩
theorem eG.froz {k : IntKind} {w : World} {base g n cap : Nat} {xs : List Int} (h : eG k w base (.slice (some ⟨g, 0, none⟩) n cap) xs) (j : Nat) (hj : j < xs.length) : w.frozen? ⟨g, j, none⟩ = false := by
  obtain ⟨_, _, _, h3, _, h5⟩ := h.cells
  exact (h5 j (by omega)).2
theorem eG.at {k : IntKind} {w : World} {base g n cap : Nat} {xs : List Int} (h : eG k w base (.slice (some ⟨g, 0, none⟩) n cap) xs) (j : Nat) (hj : j < xs.length) : w.cell? ⟨g, j, none⟩ = some (.int k (xs.getD j 0)) := h.cells.2.2.2.2.1 j hj
theorem eG.set {k : IntKind} {w : World} {base g n cap : Nat} {xs : List Int} (h : eG k w base (.slice (some ⟨g, 0, none⟩) n cap) xs) (j : Nat) (hj : j < xs.length) (u : Int) : eG k (w.setCell ⟨g, j, none⟩ (.int k u)) base (.slice (some ⟨g, 0, none⟩) n cap) (xs.set j u) := by
  obtain ⟨hn, h1, h2, h3, h4, h5⟩ := h.cells
  have hs : ∀ i, i < ([.int k u] : List Value).length → (w.cell? ⟨g, j + i, none⟩).isSome = true := fun i hi => by
    have : i = 0 := by simpa using hi
    subst this
    exact (h5 _ (by omega)).1
  show eG k (w.setCells g j [.int k u]) base _ _
  have hin : (w.setCells g j [.int k u]).cell? ⟨g, j, none⟩ = some (.int k u) := by
    have := World.cell?_setCells_in g [.int k u] j w hs 0 (by simp)
    simpa using this
  refine ⟨g, cap, by rw [List.length_set, hn], h1, by simp [World.setCells, World.setCell]; exact h2, by rw [List.length_set]; exact h3, fun i hi => ?_, fun i hi => ⟨?_, ?_⟩⟩
  · rw [List.length_set] at hi
    by_cases hij : i = j
    · subst hij
      rw [hin]
      simp [List.getD, hi]
    · rw [World.cell?_setCells_out g _ _ w ⟨g, i, none⟩ (fun _ _ => by show i < _ ∨ _ ≤ i; simp; omega), h4 i hi]
      simp [List.getD, List.getElem?_set_ne (Ne.symm hij)]
  · by_cases hij : i = j
    · subst hij
      rw [hin]; rfl
    · rw [World.cell?_setCells_out g _ _ w ⟨g, i, none⟩ (fun _ _ => by show i < _ ∨ _ ≤ i; simp; omega)]
      exact (h5 i hi).1
  · show (w.setCell _ _).frozen? _ = _
    rw [World.frozen?_setCell]
    exact (h5 i hi).2
theorem eG.far {k : IntKind} {w : World} {base g n cap : Nat} {xs : List Int} (h : eG k w base (.slice (some ⟨g, 0, none⟩) n cap) xs) {p : Addr} (hp : p.block ≠ g) (u : Value) : eG k (w.setCell p u) base (.slice (some ⟨g, 0, none⟩) n cap) xs := by
  obtain ⟨hn, h1, h2, h3, h4, h5⟩ := h.cells
  have hb : (w.setCell p u).heap[g]? = w.heap[g]? := heap_setCell_other w p g u (Ne.symm hp)
  have hc : ∀ j, (w.setCell p u).cell? ⟨g, j, none⟩ = w.cell? ⟨g, j, none⟩ := fun j => World.cell?_of_block (w := w) (a := ⟨g, j, none⟩) hb
  have hf : ∀ j, (w.setCell p u).frozen? ⟨g, j, none⟩ = w.frozen? ⟨g, j, none⟩ := fun j => World.frozen?_of_block (w := w) (a := ⟨g, j, none⟩) hb
  exact ⟨g, cap, by rw [hn], h1, (Array.getElem?_eq_some_iff.1 (hb.trans (Array.getElem?_eq_getElem h2))).1, h3, fun j hj => (hc j).trans (h4 j hj), fun j hj => by rw [hc, hf]; exact h5 j hj⟩
theorem eG.drew {k : IntKind} {w : World} {base : Nat} {v : Value} {xs : List Int} (h : eG k w base v xs) : eG k w.drew base v xs := h.below (dq (Below.refl _ _))
end Go.Proofs.YtmiackbomcjboaaGreatDoor.Kit
namespace Go.Proofs.YtmiackbomcjboaaGreatDoor.Kit
open Go.RowKit YtmiackbomcjboaaGreatDoorW.PrintWords YtmiackbomcjboaaGreatDoorW.PrintLast YtmiackbomcjboaaGreatDoorW.PrintMore
theorem eG.C {k : IntKind} {w : World} {base g n cap : Nat} {xs : List Int} (h : eG k w base (.slice (some ⟨g, 0, none⟩) n cap) xs) (hn : xs.length ≤ 9223372036854775807) : Kd.C (Kd.int k) w (some ⟨g, 0, none⟩) xs.length xs := by
  refine Kd.wb (enc := Value.int k) (d := (0 : Int)) (h1 := fun _ => rfl) ⟨rfl, hn, fun _ => ⟨_, rfl, fun j hj => ?_⟩⟩
  have e : (⟨g, 0, none⟩ : Addr).add j = ⟨g, j, none⟩ := by
    unfold Addr.add
    split <;> simp_all
  rw [e]
  exact h.at j hj
end Go.Proofs.YtmiackbomcjboaaGreatDoor.Kit
namespace Go.Proofs.YtmiackbomcjboaaGreatDoor.Kit
open Go.RowKit YtmiackbomcjboaaGreatDoorW.PrintWords YtmiackbomcjboaaGreatDoorW.PrintLast YtmiackbomcjboaaGreatDoorW.PrintMore
theorem cK.putN {w : World} {base g cap : Nat} {xs : List Int} (ys : List Int) (h1 : base ≤ g) (h2 : g < w.heap.size) (h3 : xs.length + ys.length ≤ cap) (h4 : ∀ j, j < xs.length → w.cell? ⟨g, j, none⟩ = some (.int .u8 (xs.getD j 0)))
    (h5 : ∀ j, j < cap → (w.cell? ⟨g, j, none⟩).isSome = true ∧ w.frozen? ⟨g, j, none⟩ = false) : cK (w.setCells g (0 + xs.length * 1) (ys.map (Value.int .u8))) base (.slice (some ⟨g, 0, none⟩) (xs.length + ys.length) cap) (xs ++ ys) := by
  have hb : Below 0 w w := Below.refl _ _
  have hsz : ∀ (l : List Value) (i : Nat) (v : World), (v.setCells g i l).heap.size = v.heap.size := by
    intro l
    induction l with
    | nil => intro i v; rfl
    | cons x l ih => intro i v; simp only [World.setCells]; rw [ih]; simp [World.setCell]
  have hfr : ∀ (l : List Value) (i : Nat) (v : World) (p : Addr), (v.setCells g i l).frozen? p = v.frozen? p := by
    intro l
    induction l with
    | nil => intro i v p; rfl
    | cons x l ih => intro i v p; simp only [World.setCells]; rw [ih, World.frozen?_setCell]
  have hs : ∀ j, j < (ys.map (Value.int .u8)).length → (w.cell? ⟨g, 0 + xs.length * 1 + j, none⟩).isSome = true := fun j hj => (h5 _ (by rw [List.length_map] at hj; omega)).1
  have hin : ∀ j, j < ys.length → (w.setCells g (0 + xs.length * 1) (ys.map (Value.int .u8))).cell? ⟨g, xs.length + j, none⟩ = some (.int .u8 (ys.getD j 0)) := fun j hj => by
    have := World.cell?_setCells_in g (ys.map (Value.int .u8)) (0 + xs.length * 1) w hs j (by rw [List.length_map]; exact hj)
    rw [show 0 + xs.length * 1 + j = xs.length + j by omega] at this
    rw [this]
    simp [List.getD, hj]
  have hout : ∀ j, (j < xs.length ∨ xs.length + ys.length ≤ j) → (w.setCells g (0 + xs.length * 1) (ys.map (Value.int .u8))).cell? ⟨g, j, none⟩ = w.cell? ⟨g, j, none⟩ := fun j hj => World.cell?_setCells_out g _ _ w ⟨g, j, none⟩ (fun _ _ => by show j < _ ∨ _ ≤ j; rw [List.length_map]; omega)
  refine ⟨g, cap, by simp, h1, by rw [hsz]; exact h2, by simp; omega, fun j hj => ?_, fun j hj => ⟨?_, by rw [hfr]; exact (h5 j hj).2⟩⟩
  · by_cases hjx : j < xs.length
    · rw [hout j (.inl hjx), h4 j hjx]
      simp only [List.getD, List.getElem?_append_left hjx]
    · have hj2 : j - xs.length < ys.length := by rw [List.length_append] at hj; omega
      have := hin (j - xs.length) hj2
      rw [show xs.length + (j - xs.length) = j by omega] at this
      rw [this]
      simp only [List.getD, List.getElem?_append_right (Nat.le_of_not_lt hjx)]
  · by_cases hjx : j < xs.length ∨ xs.length + ys.length ≤ j
    · rw [hout j hjx]
      exact (h5 j hj).1
    · have hj2 : j - xs.length < ys.length := by omega
      have := hin (j - xs.length) hj2
      rw [show xs.length + (j - xs.length) = j by omega] at this
      rw [this]; rfl
theorem jd {B : Nat} {w : World} {g : Nat} (hg : B ≤ g) : ∀ (l : List Value) (i : Nat) (w1 : World), Below B w w1 → Below B w (w1.setCells g i l)
  | [], _, _, h => h
  | x :: l, i, w1, h => by
    simp only [World.setCells]
    exact jd hg l _ _ (h.setCell (p := ⟨g, _, none⟩) hg _)
section
variable {P : Program} {ops : Array Oper} {rest : List Oper} {o : Oper} {a : Act} {w : World} {Q : Exit → Act → World → Prop}
/-- Bytes appended. -/
theorem ld (hgd : o.guard = none) (s x : Operand) (t : TypeId) (ho : o.op = .call { callee := .builtin .append, args := #[s, x], argTypes := #[t, t] })
    (e : TypeId) (h1 : P.underlying t = some (.slice e)) (hi : (P.info? e).map (fun i => (i.zero, i.size, i.bytes)) = some (some (.int .u8 0), 1, 1))
    (base : Nat) {v : Value} {xs : List Int} (hs : a.eval s = v) (hown : cK w base v xs) (hbase : base ≤ w.heap.size) (b c : Nat) (ys : List Int) (hx : a.eval x = .slice (some ⟨b, 0, none⟩) ys.length c) (hc : ∀ j, j < ys.length → w.cell? ⟨b, j, none⟩ = some (.int .u8 (ys.getD j 0))) (hl : xs.length + ys.length < 100000000000000)
    (h : ∀ v' w', cK w' base v' (xs ++ ys) → Below base w w' → wpList P ops Q rest (a.put o.dst v') w') : wpList P ops Q (o :: rest) a w := by
  cases hq : P.info? e with
  | none => simp [hq] at hi
  | some i =>
  have hi' : i.zero = some (.int .u8 0) ∧ i.size = 1 ∧ i.bytes = 1 := by simpa [hq] using hi
  obtain ⟨g, cap, rfl, k1, k2, k3, k4, k5⟩ := hown
  refine wpList_append_arg w hgd s x t ho e i (.int .u8 0) 1 1 h1 hq hi'.1 hi'.2.1 hi'.2.2 rfl (by decide) g 0 xs.length cap (xs.map (Value.int .u8)) hs (by simp) (fun j y hj => ?_) ⟨b, 0, none⟩ ys.length c (ys.map (Value.int .u8)) hx (by simp) (fun j y hj => ?_) (fun y hy => ?_) (fun hr j hj => ?_) (by simp only [maxLen]; omega) (by omega) (fun hr => ?_) (fun hg v' w' hrow hgr => ?_)
  · rw [List.getElem?_map] at hj
    cases hq : xs[j]? with
    | none => simp [hq] at hj
    | some z =>
      simp [hq] at hj
      subst hj
      have hlt := (List.getElem?_eq_some_iff.1 hq).1
      rw [Nat.zero_add, k4 j hlt]
      simp [List.getD, hq]
  · rw [List.getElem?_map] at hj
    cases hq : ys[j]? with
    | none => simp [hq] at hj
    | some z =>
      simp [hq] at hj
      subst hj
      have hlt := (List.getElem?_eq_some_iff.1 hq).1
      have h9 := hc j hlt
      rw [List.getD, hq] at h9
      have e : (⟨b, 0, none⟩ : Addr).add j = ⟨b, j, none⟩ := by
        unfold Addr.add
        split <;> simp_all
      simpa [e] using h9
  · obtain ⟨z, _, rfl⟩ := List.mem_map.mp hy
    rfl
  · exact k5 _ (by rw [List.length_map] at hj; omega)
  · exact h _ _ (cK.putN ys k1 k2 hr k4 k5) (jd k1 _ _ _ (Below.refl _ _))
  · refine h _ _ ?_ ((hH hgr).mono hbase)
    refine (cK.of_row (n := xs.length + ys.length) (by omega) (by simp) (e := e) (base := w.heap.size) ?_).lower hbase
    simpa using hrow
end
theorem cK.empty (w : World) (e : TypeId) : cK (w.alloc (.cells #[] e)) w.heap.size (.slice (some ⟨w.heap.size, 0, none⟩) 0 0) [] :=
  ⟨w.heap.size, 0, rfl, Nat.le_refl _, by simp, Nat.le_refl _, fun j hj => absurd hj (by simp), fun j hj => absurd hj (by omega)⟩
end Go.Proofs.YtmiackbomcjboaaGreatDoor.Kit
namespace Go.Proofs.YtmiackbomcjboaaGreatDoor.Kit
open Go.RowKit YtmiackbomcjboaaGreatDoorW.PrintWords YtmiackbomcjboaaGreatDoorW.PrintLast YtmiackbomcjboaaGreatDoorW.PrintMore
theorem cK.setfar {w : World} {base : Nat} {v : Value} {xs : List Int} (h : cK w base v xs) {p : Addr} (hp : p.block < base) (u : Value) : cK (w.setCell p u) base v xs := by
  obtain ⟨g, cap, rfl, h1, h2⟩ := h
  exact cK.far ⟨g, cap, rfl, h1, h2⟩ (by omega) u
end Go.Proofs.YtmiackbomcjboaaGreatDoor.Kit
