/- Words for facts that a walk keeps. -/
import Derived.Test.YtielligodgabiaaGreatDoorMW7
namespace Go.Proofs.YtielligodgabiaaGreatDoor.P
open Go.RowKit YtielligodgabiaaGreatDoorW.PrintWords YtielligodgabiaaGreatDoorW.PrintLast YtielligodgabiaaGreatDoorW.PrintMore
theorem u0_ {a1 a2 p : Prop} (x1 : a1) (x2 : a2) (h : a1 → a2 → p := by intro x1_ x2_; repeat (first | (with_reducible first | exact HB.out | apply d6 | apply cw | apply bX | refine co ?_ x1_ | refine co ?_ x2_) | exact HB.out)) : p := h x1 x2
end Go.Proofs.YtielligodgabiaaGreatDoor.P
