/- Words for facts that a walk keeps. -/
import Derived.Test.YtmiackbomcjboaaGreatDoorMW7
namespace Go.Proofs.YtmiackbomcjboaaGreatDoor.P
open Go.RowKit YtmiackbomcjboaaGreatDoorW.PrintWords YtmiackbomcjboaaGreatDoorW.PrintLast YtmiackbomcjboaaGreatDoorW.PrintMore
theorem u0_ {p : Prop} (h : p := by (repeat (first | (with_reducible first | exact HBW.o | apply co | apply bH | apply bE) | exact HBW.o)); first | done | fail) : p := h
theorem u1_ {a1 p : Prop} (x1 : a1) (h : a1 → p := by intro x1_; (repeat (first | (with_reducible first | exact HBW.o | apply co | apply bH | apply bE | refine dP ?_ x1_) | exact HBW.o)); first | done | fail) : p := h x1
theorem u2_ {a1 a2 p : Prop} (x1 : a1) (x2 : a2) (h : a1 → a2 → p := by intro x1_ x2_; (repeat (first | (with_reducible first | exact HB.o | apply co | apply bH | apply bE | refine dP ?_ x1_ | refine dP ?_ x2_) | exact HB.o)); first | done | fail) : p := h x1 x2
theorem u4_ {a1 p : Prop} (x1 : a1) (h : a1 → p := by intro x1_; (repeat (first | (with_reducible first | exact HB.o | apply co | apply bH | apply bE | refine dP ?_ x1_) | exact HB.o)); first | done | fail) : p := h x1
theorem u5_ {p : Prop} (h : p := by (repeat (first | (with_reducible first | exact HK.o | apply cD.set_ | apply pT | apply keep_drew | apply keep_alloc) | exact HK.o)); first | done | fail) : p := h
theorem u6_ {p : Prop} (h : p := by (repeat (first | (with_reducible first | exact HB.o | apply co | apply bH | apply bE) | exact HB.o)); first | done | fail) : p := h
end Go.Proofs.YtmiackbomcjboaaGreatDoor.P
