/- Words for facts that a walk keeps. -/
import Derived.Test.YtmdlpmddljbkeaaGreatDoorPx1
namespace Go.Proofs.YtmdlpmddljbkeaaGreatDoor.P
open Go.RowKit YtmdlpmddljbkeaaGreatDoorW.PrintWords YtmdlpmddljbkeaaGreatDoorW.PrintLast YtmdlpmddljbkeaaGreatDoorW.PrintMore
theorem u4_ {p : Prop} (h : p := by (repeat (first | (with_reducible first | exact HI0.o | apply bE.alloc | apply bE.drewN | apply bE.drew | apply bE.set_1 | apply bE.set_2) | exact HI0.o)); first | done | fail) : p := h
theorem u7_ {p : Prop} (h : p := by (repeat (first | (with_reducible first | exact HI231.o | apply bE.alloc | apply bE.drewN | apply bE.drew | apply bE.set_1 | apply bE.set_2) | exact HI231.o)); first | done | fail) : p := h
end Go.Proofs.YtmdlpmddljbkeaaGreatDoor.P
