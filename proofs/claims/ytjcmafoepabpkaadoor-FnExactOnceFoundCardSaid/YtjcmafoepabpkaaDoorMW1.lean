/- Rows over slices of texts, and over structs that hold such: an argument that came in, as the walks want it. -/
import Derived.Test.YtjcmafoepabpkaaDoorV0
import Derived.SliceStrings
import Derived.Lib.SmallJoins
import Derived.ProofKit
import Derived.Deep.Strs
namespace Go.Proofs.YtjcmafoepabpkaaDoor.Kit
open Go.RowKit Go.Proofs.YtjcmafoepabpkaaDoorW.PrintWords Go.ChangeShapes Go.WideShapes
/-- A slice of texts, out of its reading. -/
theorem read_strings {H : Type} {enc : TypeId × Value → H} {P : Program} {w : World} {base : Nat} {spare : Nat → Bool} {held : Bool} {t e : TypeId} {fuel : Nat} {v : Value} {x : DataW H × List MemPlace} (ht : P.underlying t = some (.slice e)) (he : P.underlying e = some .string) (hc : P.cellsOf e = 1)
    (h : DataW.trod enc P w base spare held fuel t [v] = some x) :
    ∃ (A : Option Addr) (cap : Nat) (l : List ByteArray), v = .slice A l.length cap ∧ l.length ≤ cap ∧ Kd.C Kd.string w A l.length l ∧ l.length ≤ 9223372036854775807 ∧ ∀ s ∈ l, s.size ≤ 9223372036854775807 := by
  rcases open_strings ht he hc h with ⟨hcs, _⟩ | ⟨a, len, cap, ss, hcs, _, hl, hm, hz, _, hcell, hws⟩
  · simp only [List.cons.injEq, and_true] at hcs
    subst hcs
    exact ⟨none, 0, [], rfl, Nat.le_refl _, Kd.C_nil _ _, by simp, fun s hs => absurd hs (by simp)⟩
  · simp only [List.cons.injEq, and_true] at hcs
    subst hcs
    have hm2 : cap ≤ 9223372036854775807 := by unfold maxLen at hm; omega
    have hws2 : ∀ s ∈ ss, s.size ≤ 9223372036854775807 := fun s hs => by have := hws s hs; unfold maxLen at this; omega
    have hss : len ≤ ss.length := by
      rw [hz]; split <;> omega
    have hll : (ss.take len).length = len := by simp; omega
    refine ⟨some a, cap, ss.take len, by rw [hll], by omega, Kd.C_of_reads (d := ByteArray.empty) (h1 := fun _ => rfl) ⟨rfl, by omega, fun _ => ⟨a, rfl, fun j hj => ?_⟩⟩, by omega, fun s hs => hws2 s (List.mem_of_mem_take hs)⟩
    rw [hll] at hj
    rw [hcell j (by omega)]
    congr 2
    simp [hj]
open Go.Joins Go.Deep in
/-- A struct of a struct of three cells, a cell, and a struct of three cells, by value. -/
theorem open_agg313 {H : Type} {enc : TypeId × Value → H} {P : Program} {w : World} {base : Nat} {spare : Nat → Bool} {held : Bool} {r : Reach} {b0 : Nat} {t : TypeId} {f0 f1 f2 g0 g1 g2 k0 k1 k2 : Field} {v : Value} {d : DataW H} {p : List MemPlace}
    (hs : P.underlying t = some (.struct #[f0, f1, f2])) (hs0 : P.underlying f0.type = some (.struct #[g0, g1, g2])) (hs2 : P.underlying f2.type = some (.struct #[k0, k1, k2]))
    (hC : P.cellsOf t = 7) (c0 : P.cellsOf f0.type = 3) (c1 : P.cellsOf f1.type = 1) (c2 : P.cellsOf f2.type = 3) (o : f0.offset = 0 ∧ f1.offset = 3 ∧ f2.offset = 4)
    (d0 : P.cellsOf g0.type = 1) (d1 : P.cellsOf g1.type = 1) (d2 : P.cellsOf g2.type = 1) (og : g0.offset = 0 ∧ g1.offset = 1 ∧ g2.offset = 2)
    (e0 : P.cellsOf k0.type = 1) (e1 : P.cellsOf k1.type = 1) (e2 : P.cellsOf k2.type = 1) (ok : k0.offset = 0 ∧ k1.offset = 1 ∧ k2.offset = 2)
    (hv : Value.okWide P w r b0 t v) (h : DataW.Trod enc P w base spare held t v d p) :
    ∃ (v0 v1 v2 v3 v4 v5 v6 : Value) (y0 y1 y2 y3 y4 y5 y6 : DataW H × List MemPlace) (n m q : Nat), v = .agg #[v0, v1, v2, v3, v4, v5, v6] ∧
      DataW.trod enc P w base spare held n g0.type [v0] = some y0 ∧ DataW.trod enc P w base spare held n g1.type [v1] = some y1 ∧ DataW.trod enc P w base spare held n g2.type [v2] = some y2 ∧
      DataW.trod enc P w base spare held m f1.type [v3] = some y3 ∧
      DataW.trod enc P w base spare held q k0.type [v4] = some y4 ∧ DataW.trod enc P w base spare held q k1.type [v5] = some y5 ∧ DataW.trod enc P w base spare held q k2.type [v6] = some y6 := by
  obtain ⟨cs, rfl, hsz⟩ := okWide_struct hs hv
  obtain ⟨l⟩ := cs
  rw [hC] at hsz
  obtain ⟨u0, u1, u2, u3, u4, u5, u6, rfl⟩ : ∃ u0 u1 u2 u3 u4 u5 u6, l = [u0, u1, u2, u3, u4, u5, u6] := by
    match l, hsz with
    | [u0, u1, u2, u3, u4, u5, u6], _ => exact ⟨u0, u1, u2, u3, u4, u5, u6, rfl⟩
  obtain ⟨fuel, hf⟩ := h
  obtain ⟨a0, a1, a2, n, _, _, h0, h1, h2⟩ := trod_struct3 hs hf
  rw [o.1, c0] at h0
  rw [o.2.1, c1] at h1
  rw [o.2.2, c2] at h2
  obtain ⟨x0, x1, x2, n0, _, _, p0, p1, p2⟩ := trod_struct3 hs0 h0
  obtain ⟨z0, z1, z2, n2, _, _, q0, q1, q2⟩ := trod_struct3 hs2 h2
  rw [og.1, d0] at p0
  rw [og.2.1, d1] at p1
  rw [og.2.2, d2] at p2
  rw [ok.1, e0] at q0
  rw [ok.2.1, e1] at q1
  rw [ok.2.2, e2] at q2
  exact ⟨u0, u1, u2, u3, u4, u5, u6, x0, x1, x2, a1, z0, z1, z2, n0, n, n2, rfl, p0, p1, p2, h1, q0, q1, q2⟩
end Go.Proofs.YtjcmafoepabpkaaDoor.Kit
