/- Words of the eighth pass for lists whose rows are apart. -/
import Derived.Test.YtmiackbomcjboaaGreatDoorMWF
namespace Go.Proofs.YtmiackbomcjboaaGreatDoor.P
open Go.RowKit YtmiackbomcjboaaGreatDoorW.PrintWords YtmiackbomcjboaaGreatDoorW.PrintLast YtmiackbomcjboaaGreatDoorW.PrintMore
set_option linter.unusedVariables false
section
variable {α β : Type} {d : Kd α} {d2 : Kd β} {e e2 base base2 g t : Nat} {W w1 w0 wz : World} {ok okv : Nat → Prop} {u v : Value} {xs : List α} {ys : List β} {a : Prop} {o : Obj} {cells : Array Value}
theorem fN_ (x : aa a) (hb : Below W.heap.size W w1 := by exact hb) (h : a → d.N e W base ok v xs := by intro x_; (with_reducible repeat (first | apply Kd.N_alloc | apply Kd.N_drewN | apply Kd.N_drew)); exact x_) : aa (d.N e w1 base ok v xs) := ⟨Kd.wR (h x.o) hb⟩
theorem fa (x : aa a) (ho : d2.R e2 w1 W.heap.size okv v ys := by exact ho_) (hb : Below W.heap.size W w1 := by exact hb) (h : a → d.N e W base ok u xs := by intro x_; (with_reducible repeat (first | apply Kd.N_alloc | apply Kd.N_drewN | apply Kd.N_drew)); exact x_) : aa (d.N e w1 base (fun k => ok k ∧ some k ≠ v.ownBlock) u xs) := ⟨Kd.vD (h x.o) (Kd.vd ho) hb⟩
theorem uL (x : aa a) (ho : d2.S e2 w1 W.heap.size okv v ys := by exact ho_) (hb : Below W.heap.size W w1 := by exact hb) (h : a → d.N e W base ok u xs := by intro x_; (with_reducible repeat (first | apply Kd.N_alloc | apply Kd.N_drewN | apply Kd.N_drew)); exact x_) : aa (d.N e w1 base (fun k => ok k ∧ some k ≠ v.ownBlock) u xs) := ⟨Kd.vD (h x.o) (Kd.vT ho) hb⟩
end
end Go.Proofs.YtmiackbomcjboaaGreatDoor.P
