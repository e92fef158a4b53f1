/- Words for facts that a walk keeps. -/
import Derived.Test.YthdjmbbkenbeiaaDoorMW7
namespace Go.Proofs.YthdjmbbkenbeiaaDoor.P
open Go.RowKit Go.Proofs.YthdjmbbkenbeiaaDoorW.PrintWords Go.Proofs.YthdjmbbkenbeiaaDoorW.PrintLast Go.Proofs.YthdjmbbkenbeiaaDoorW.PrintMore
theorem u0_ {a1 a2 p : Prop} (x1 : a1) (x2 : a2) (h : a1 → a2 → p := by intro x1_ x2_; repeat (first | (with_reducible first | exact HB.out | apply below_alloc | apply pw_below_drewN | apply below_drew1 | refine below_set ?_ x1_ | refine below_set ?_ x2_) | exact HB.out)) : p := h x1 x2
theorem u1_ {a1 p : Prop} (x1 : a1) (h : a1 → p := by intro x1_; repeat (first | (with_reducible first | exact HB.out | apply below_alloc | apply pw_below_drewN | apply below_drew1 | refine below_set ?_ x1_) | exact HB.out)) : p := h x1
end Go.Proofs.YthdjmbbkenbeiaaDoor.P
