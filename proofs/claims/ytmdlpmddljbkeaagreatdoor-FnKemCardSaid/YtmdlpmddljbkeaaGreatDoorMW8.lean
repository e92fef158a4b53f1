/- Words for facts that a walk keeps. -/
import Derived.Test.YtmdlpmddljbkeaaGreatDoorMW7
namespace Go.Proofs.YtmdlpmddljbkeaaGreatDoor.P
open Go.RowKit YtmdlpmddljbkeaaGreatDoorW.PrintWords YtmdlpmddljbkeaaGreatDoorW.PrintLast YtmdlpmddljbkeaaGreatDoorW.PrintMore
theorem u0_ {p : Prop} (h : p := by (repeat (first | (with_reducible first | exact HBW.o | apply co | apply bH | apply bx) | exact HBW.o)); first | done | fail) : p := h
theorem u1_ {a1 p : Prop} (x1 : a1) (h : a1 → p := by intro x1_; (repeat (first | (with_reducible first | exact HBW.o | apply co | apply bH | apply bx | refine dG ?_ x1_) | exact HBW.o)); first | done | fail) : p := h x1
theorem u2_ {a1 a2 p : Prop} (x1 : a1) (x2 : a2) (h : a1 → a2 → p := by intro x1_ x2_; (repeat (first | (with_reducible first | exact HB.o | apply co | apply bH | apply bx | refine dG ?_ x1_ | refine dG ?_ x2_) | exact HB.o)); first | done | fail) : p := h x1 x2
theorem u3_ {p : Prop} (h : p := by (repeat (first | (with_reducible first | exact HB.o | apply co | apply bH | apply bx) | exact HB.o)); first | done | fail) : p := h
theorem u5_ {a1 p : Prop} (x1 : a1) (h : a1 → p := by intro x1_; (repeat (first | (with_reducible first | exact HB.o | apply co | apply bH | apply bx | refine dG ?_ x1_) | exact HB.o)); first | done | fail) : p := h x1
theorem u6_ {p : Prop} (h : p := by (repeat (first | (with_reducible first | exact HK.o | apply cC.set_ | apply pz | apply keep_drew | apply keep_alloc) | exact HK.o)); first | done | fail) : p := h
end Go.Proofs.YtmdlpmddljbkeaaGreatDoor.P
