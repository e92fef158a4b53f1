/- Words of the fifth pass: small closing steps. -/
import Derived.Test.YtmdlpmddljbkeaaGreatDoorMWA
namespace Go.Proofs.YtmdlpmddljbkeaaGreatDoor.P
open Go.RowKit YtmdlpmddljbkeaaGreatDoorW.PrintWords YtmdlpmddljbkeaaGreatDoorW.PrintLast YtmdlpmddljbkeaaGreatDoorW.PrintMore
set_option linter.unusedVariables false
theorem oD_ {p : Prop} [Decidable p] (h : decide p = true := by first | (with_reducible assumption) | assumption) : p := of_decide_eq_true h
theorem rS_ {a p : Prop} (x : a) (h : a → p := by intro x_; (with_reducible repeat (first | apply Kd.S_alloc | apply Kd.S_drewN | apply Kd.vH)); exact x_) : p := h x
theorem kS_ {p q : Prop} (x : q) (h : q → p := by intro x_; (with_reducible repeat (first | apply Kd.S_alloc | apply Kd.S_drewN | apply Kd.vH)); exact x_) : p := h x
theorem f0_ {p : Prop} (h : p := by first | rfl | (simp; done) | (simp [*]; done)) : p := h
theorem f1_ {p : Prop} (h : p := by first | rfl | (simp [eN, eL] <;> rfl) | (simp [*, eN, eL] <;> rfl)) : p := h
theorem d0_ {p : Prop} (h : p := by (repeat (first | exact cr.refl _ | apply cr.step)); first | done | fail) : p := h
end Go.Proofs.YtmdlpmddljbkeaaGreatDoor.P
