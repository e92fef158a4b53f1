/- Words for facts that a walk keeps. -/
import Derived.Test.YtmiackbomcjboaaGreatDoorPx1
namespace Go.Proofs.YtmiackbomcjboaaGreatDoor.P
open Go.RowKit YtmiackbomcjboaaGreatDoorW.PrintWords YtmiackbomcjboaaGreatDoorW.PrintLast YtmiackbomcjboaaGreatDoorW.PrintMore
theorem u3_ {p : Prop} (h : p := by (repeat (first | (with_reducible first | exact HI0.o | apply bx.alloc | apply bx.drewN | apply bx.drew | apply bx.set_1 | apply bx.set_2) | exact HI0.o)); first | done | fail) : p := h
theorem u7_ {p : Prop} (h : p := by (repeat (first | (with_reducible first | exact HI750.o | apply bx.alloc | apply bx.drewN | apply bx.drew | apply bx.set_1 | apply bx.set_2) | exact HI750.o)); first | done | fail) : p := h
theorem u8_ {p : Prop} (h : p := by (repeat (first | (with_reducible first | exact HI231.o | apply bx.alloc | apply bx.drewN | apply bx.drew | apply bx.set_1 | apply bx.set_2) | exact HI231.o)); first | done | fail) : p := h
end Go.Proofs.YtmiackbomcjboaaGreatDoor.P
