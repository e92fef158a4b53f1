/- Rows over slices of texts, and over structs that hold such: an argument that came in, as the walks want it. -/
import Derived.Test.YtmnnklealendcaaV0
import Derived.SliceStrings
import Derived.Lib.SmallJoins
import Derived.ProofKit
namespace Go.Proofs.Ytmnnklealendcaa.Kit
open Go.RowKit Go.Proofs.YtmnnklealendcaaW.PrintWords Go.ChangeShapes Go.WideShapes
/-- A slice of texts, out of its reading. -/
theorem read_strings {H : Type} {enc : TypeId × Value → H} {P : Program} {w : World} {base : Nat} {spare : Nat → Bool} {held : Bool} {t e : TypeId} {fuel : Nat} {v : Value} {x : DataW H × List MemPlace} (ht : P.underlying t = some (.slice e)) (he : P.underlying e = some .string) (hc : P.cellsOf e = 1)
    (h : DataW.trod enc P w base spare held fuel t [v] = some x) :
    ∃ (A : Option Addr) (cap : Nat) (l : List ByteArray), v = .slice A l.length cap ∧ l.length ≤ cap ∧ Kd.C Kd.string w A l.length l ∧ l.length ≤ 9223372036854775807 ∧ ∀ s ∈ l, s.size ≤ 9223372036854775807 := by
  rcases open_strings ht he hc h with ⟨hcs, _⟩ | ⟨a, len, cap, ss, hcs, _, hl, hm, hz, _, hcell, hws⟩
  · simp only [List.cons.injEq, and_true] at hcs
    subst hcs
    exact ⟨none, 0, [], rfl, Nat.le_refl _, Kd.C_nil _ _, by simp, fun s hs => absurd hs (by simp)⟩
  · simp only [List.cons.injEq, and_true] at hcs
    subst hcs
    have hm2 : cap ≤ 9223372036854775807 := by unfold maxLen at hm; omega
    have hws2 : ∀ s ∈ ss, s.size ≤ 9223372036854775807 := fun s hs => by have := hws s hs; unfold maxLen at this; omega
    have hss : len ≤ ss.length := by
      rw [hz]; split <;> omega
    have hll : (ss.take len).length = len := by simp; omega
    refine ⟨some a, cap, ss.take len, by rw [hll], by omega, Kd.C_of_reads (d := ByteArray.empty) (h1 := fun _ => rfl) ⟨rfl, by omega, fun _ => ⟨a, rfl, fun j hj => ?_⟩⟩, by omega, fun s hs => hws2 s (List.mem_of_mem_take hs)⟩
    rw [hll] at hj
    rw [hcell j (by omega)]
    congr 2
    simp [hj]
end Go.Proofs.Ytmnnklealendcaa.Kit
