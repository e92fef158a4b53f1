/- Short words for what the printed texts say often: each bears its own proof as its last, unwritten part. -/
import Derived.Test.YtooanbpkknlmjaaGreatDoorV0
namespace Go.Proofs.YtooanbpkknlmjaaGreatDoor.P
open Go.RowKit YtooanbpkknlmjaaGreatDoorW.PrintWords YtooanbpkknlmjaaGreatDoorW.PrintLast YtooanbpkknlmjaaGreatDoorW.PrintMore
theorem hB_ {p : Prop} (h : p := by repeat (first | (with_reducible first | exact HB.o | apply er | apply cK | apply b8) | exact HB.o)) : p := h
theorem hS_ {a p : Prop} (x : a) (h : a → p := by intro x_; repeat (first | (with_reducible first | exact HB.o | apply er | apply cK | apply b8 | refine cq ?_ x_) | exact HB.o)) : p := h x
theorem rR_ {a p : Prop} (x : a) (h : a → p := by intro x_; (with_reducible repeat (first | apply Kd.R_alloc | apply Kd.uk | apply Kd.tl)); exact x_) : p := h x
theorem rV_ {a p : Prop} (x : a) (h : a → p := by intro x_; (with_reducible repeat (first | apply Kd.V_alloc | apply Kd.V_drewN | apply Kd.V_drew)); exact x_) : p := h x
theorem rK_ {a p : Prop} (x : a) (h : a → p := by intro x_; (with_reducible repeat (first | refine mr ?_ _ | refine jo ?_ | refine blk_alloc ?_ _)); exact x_) : p := h x
theorem aM_ {p : Prop} (h : p := by (try simp only [List.map_toArray, List.map_cons, List.map_nil]); first | done | rfl | (simp only [List.length_drop, List.length_take]; rfl)) : p := h
theorem cR_ {a p : Prop} (x : a) (h : a → p := by intro x_; repeat (first | exact x_ | (with_reducible refine Kd.C_alloc ?_ _) | (with_reducible refine Kd.C_drewN ?_ _) | (with_reducible refine Kd.C_drew ?_))) : p := h x
end Go.Proofs.YtooanbpkknlmjaaGreatDoor.P
