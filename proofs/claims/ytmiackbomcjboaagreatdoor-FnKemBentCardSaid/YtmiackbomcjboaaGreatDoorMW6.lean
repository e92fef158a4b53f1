/- Short words for what the printed texts say often: each bears its own proof as its last, unwritten part. -/
import Derived.Test.YtmiackbomcjboaaGreatDoorV0
namespace Go.Proofs.YtmiackbomcjboaaGreatDoor.P
open Go.RowKit YtmiackbomcjboaaGreatDoorW.PrintWords YtmiackbomcjboaaGreatDoorW.PrintLast YtmiackbomcjboaaGreatDoorW.PrintMore
theorem hB_ {p : Prop} (h : p := by (repeat (first | (with_reducible first | exact HB.o | apply co | apply bH | apply bE) | exact HB.o)); first | done | fail) : p := h
theorem hS_ {a p : Prop} (x : a) (h : a → p := by intro x_; (repeat (first | (with_reducible first | exact HB.o | apply co | apply bH | apply bE | refine dP ?_ x_) | exact HB.o)); first | done | fail) : p := h x
theorem rR_ {a p : Prop} (x : a) (h : a → p := by intro x_; (with_reducible repeat (first | apply Kd.R_alloc | apply Kd.vH | apply Kd.vh)); exact x_) : p := h x
theorem rK_ {a p : Prop} (x : a) (h : a → p := by intro x_; (with_reducible repeat (first | refine jI ?_ _ | refine iG ?_ | refine blk_alloc ?_ _)); exact x_) : p := h x
theorem aM_ {p : Prop} (h : p := by (try simp only [List.map_toArray, List.map_cons, List.map_nil]); first | done | rfl | (simp only [List.length_drop, List.length_take]; rfl)) : p := h
theorem cR_ {a p : Prop} (x : a) (h : a → p := by intro x_; (repeat (first | exact x_ | (with_reducible refine Kd.C_alloc ?_ _) | (with_reducible refine Kd.C_drewN ?_ _) | (with_reducible refine Kd.C_drew ?_))); first | done | fail) : p := h x
end Go.Proofs.YtmiackbomcjboaaGreatDoor.P
