/- Words for facts that a walk keeps. -/
import Derived.Test.YtooanbpkknlmjaaGreatDoorMW7
namespace Go.Proofs.YtooanbpkknlmjaaGreatDoor.P
open Go.RowKit YtooanbpkknlmjaaGreatDoorW.PrintWords YtooanbpkknlmjaaGreatDoorW.PrintLast YtooanbpkknlmjaaGreatDoorW.PrintMore
theorem u0_ {a1 a2 p : Prop} (x1 : a1) (x2 : a2) (h : a1 → a2 → p := by intro x1_ x2_; repeat (first | (with_reducible first | exact HB.o | apply er | apply cK | apply b8 | refine cq ?_ x1_ | refine cq ?_ x2_) | exact HB.o)) : p := h x1 x2
end Go.Proofs.YtooanbpkknlmjaaGreatDoor.P
