/- Words of the fifth pass: small closing steps. -/
import Derived.Test.YtmiackbomcjboaaGreatDoorMWA
namespace Go.Proofs.YtmiackbomcjboaaGreatDoor.P
open Go.RowKit YtmiackbomcjboaaGreatDoorW.PrintWords YtmiackbomcjboaaGreatDoorW.PrintLast YtmiackbomcjboaaGreatDoorW.PrintMore
set_option linter.unusedVariables false
theorem oD_ {p : Prop} [Decidable p] (h : decide p = true := by first | (with_reducible assumption) | assumption) : p := of_decide_eq_true h
theorem rN_ {a p : Prop} (x : a) (h : a → p := by intro x_; (with_reducible repeat (first | apply Kd.N_alloc | apply Kd.N_drewN | apply Kd.N_drew)); exact x_) : p := h x
theorem rS_ {a p : Prop} (x : a) (h : a → p := by intro x_; (with_reducible repeat (first | apply Kd.S_alloc | apply Kd.S_drewN | apply Kd.vM)); exact x_) : p := h x
theorem kN_ {p q : Prop} (x : q) (h : q → p := by intro x_; (with_reducible repeat (first | apply Kd.N_alloc | apply Kd.N_drewN | apply Kd.N_drew)); exact x_) : p := h x
theorem kS_ {p q : Prop} (x : q) (h : q → p := by intro x_; (with_reducible repeat (first | apply Kd.S_alloc | apply Kd.S_drewN | apply Kd.vM)); exact x_) : p := h x
theorem f0_ {p : Prop} (h : p := by first | rfl | (simp; done) | (simp [*]; done)) : p := h
theorem f1_ {p : Prop} (h : p := by first | rfl | (simp [dE, dB] <;> rfl) | (simp [*, dE, dB] <;> rfl)) : p := h
theorem d0_ {p : Prop} (h : p := by (repeat (first | exact cx.refl _ | apply cx.step)); first | done | fail) : p := h
end Go.Proofs.YtmiackbomcjboaaGreatDoor.P
