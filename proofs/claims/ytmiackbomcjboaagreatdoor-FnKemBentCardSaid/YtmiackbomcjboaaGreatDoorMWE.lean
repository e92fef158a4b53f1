/- Words of the seventh pass. -/
import Derived.Test.YtmiackbomcjboaaGreatDoorMWD
namespace Go.Proofs.YtmiackbomcjboaaGreatDoor.P
open Go.RowKit YtmiackbomcjboaaGreatDoorW.PrintWords YtmiackbomcjboaaGreatDoorW.PrintLast YtmiackbomcjboaaGreatDoorW.PrintMore
set_option linter.unusedVariables false
section
variable {P : Program} {md : Region.Mode} {ops : Array Oper} {Q : Exit → Act → World → Prop} {S : World → Prop} {ds : List Nat} {T : Bool × List (List Nat × List Nat)} {oi : Oper} {v : Value} {fuel : Nat} {l : Array Bool} {a a' : Act} {w : World}
theorem pT_ (i N n k : Nat) (h : bS P md ops Q S ds fuel (bb_ n k) a' w) (hT : eH md ops = T := by exact HT_.o)
    (hi : ops[i]? = some oi := by exact rfl) (hN : oi.dst = some N := by exact rfl) (hc : rv T l.toList (bb_ n k).toList i = true := by kernel_rfl)
    (hQ : ∀ c a w, Q (.panic c) (a.put oi.dst v) w → Q (.panic c) a w := by exact fun _ _ _ h => h)
    (hy : Yields P ops oi v a := by refine Or.inl ⟨by rfl, ?_⟩; intro w'; go_simp; with_reducible rfl)
    (ha : a.put (some N) v = a' := by (simp only [Act.put, List.setIfInBounds_toArray, List.set_cons_zero, List.set_cons_succ, bB, cG]); rfl) : bS P md ops Q S ds (fuel + 1) l a w :=
  pS_ i N (bb_ n k) hT h hi hN hc hQ hy ha
end
theorem hc_ {p q : Prop} (x : p) (h : p → q := by intro x_; exact (HB.o.cell (World.block_lt_of_cell? _ _ x_)).trans x_) : q := h x
theorem hd_ {p q : Prop} (x : p) (h : p → q := by intro x_; exact HB.o.cell (World.block_lt_of_cell? _ _ x_)) : q := h x
end Go.Proofs.YtmiackbomcjboaaGreatDoor.P
