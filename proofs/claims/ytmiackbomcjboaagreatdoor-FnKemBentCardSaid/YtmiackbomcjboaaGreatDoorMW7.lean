/- Shorter words still: one step of a region in any order, flags as a number's bits, a choice that ends in none. -/
import Derived.Test.YtmiackbomcjboaaGreatDoorMW6
import Derived.Test.YtmiackbomcjboaaGreatDoorPx0
namespace Go.Proofs.YtmiackbomcjboaaGreatDoor.P
open Go.RowKit YtmiackbomcjboaaGreatDoorW.PrintWords YtmiackbomcjboaaGreatDoorW.PrintLast YtmiackbomcjboaaGreatDoorW.PrintMore
set_option linter.unusedVariables false
def bb_ (n k : Nat) : Array Bool := ((List.range n).map k.testBit).toArray
section
variable {P : Program} {md : Region.Mode} {ops : Array Oper} {Q : Exit → Act → World → Prop} {S : World → Prop} {ds : List Nat} {T : Bool × List (List Nat × List Nat)} {oi : Oper} {v : Value} {fuel : Nat} {l : Array Bool} {a a' : Act} {w : World}
theorem pS_ (i N : Nat) (l' : Array Bool) (hT : eH md ops = T) (h : bS P md ops Q S ds fuel l' a' w)
    (hi : ops[i]? = some oi := by exact rfl) (hN : oi.dst = some N := by exact rfl) (hc : rv T l.toList l'.toList i = true := by kernel_rfl)
    (hQ : ∀ c a w, Q (.panic c) (a.put oi.dst v) w → Q (.panic c) a w := by exact fun _ _ _ h => h)
    (hy : Yields P ops oi v a := by refine Or.inl ⟨by rfl, ?_⟩; intro w'; go_simp; with_reducible rfl)
    (ha : a.put (some N) v = a' := by (simp only [Act.put, List.setIfInBounds_toArray, List.set_cons_zero, List.set_cons_succ, bB, cG]); rfl) : bS P md ops Q S ds (fuel + 1) l a w :=
  sy (i := i) l' hi hN (rA hT hc) hQ hy ha h
theorem tS_ (i N : Nat) (l' : Array Bool) (hc : nr md ops ds l l' i = true) (hS : S w) (h : bS P md ops Q S ds fuel l' a' w)
    (hi : ops[i]? = some oi := by exact rfl) (hN : oi.dst = some N := by exact rfl)
    (hQ : ∀ c a w, Q (.panic c) (a.put oi.dst v) w → Q (.panic c) a w := by exact fun _ _ _ h => h)
    (hy : YieldsIf P ops S oi v a := by refine Or.inl ⟨by rfl, ?_⟩; first | (intro w' s0; go_simp; with_reducible rfl) | (rintro w' ⟨s0, s1⟩; go_simp; with_reducible rfl) | (rintro w' ⟨s0, s1, s2⟩; go_simp; with_reducible rfl) | (rintro w' ⟨s0, s1, s2, s3⟩; go_simp; with_reducible rfl) | (rintro w' ⟨s0, s1, s2, s3, s4⟩; go_simp; with_reducible rfl))
    (ha : a.put (some N) v = a' := by (simp only [Act.put, List.setIfInBounds_toArray, List.set_cons_zero, List.set_cons_succ, bB, cG]); rfl) : bS P md ops Q S ds (fuel + 1) l a w :=
  ur (i := i) l' hi hN hc hQ hy hS ha h
end
theorem kR_ {p q : Prop} (x : q) (h : q → p := by intro x_; (with_reducible repeat (first | apply Kd.R_alloc | apply Kd.vH | apply Kd.vh)); exact x_) : p := h x
theorem kV_ {p q : Prop} (x : q) (h : q → p := by intro x_; (with_reducible repeat (first | apply Kd.V_alloc | apply Kd.V_drewN | apply Kd.V_drew)); exact x_) : p := h x
theorem kK_ {p q : Prop} (x : q) (h : q → p := by intro x_; (with_reducible repeat (first | refine jI ?_ _ | refine iG ?_ | refine blk_alloc ?_ _)); exact x_) : p := h x
theorem iN_ {α : Type} {c : Prop} [Decidable c] {a : Option α} {r : α} (h : (if c then a else none) = some r) : c ∧ a = some r := by
  by_cases hc : c
  · rw [if_pos hc] at h; exact ⟨hc, h⟩
  · rw [if_neg hc] at h; exact absurd h (by simp)
end Go.Proofs.YtmiackbomcjboaaGreatDoor.P
