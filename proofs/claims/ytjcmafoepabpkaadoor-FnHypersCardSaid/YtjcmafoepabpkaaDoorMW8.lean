/- Words for facts that a walk keeps. -/
import Derived.Test.YtjcmafoepabpkaaDoorMW7
namespace Go.Proofs.YtjcmafoepabpkaaDoor.P
open Go.RowKit Go.Proofs.YtjcmafoepabpkaaDoorW.PrintWords Go.Proofs.YtjcmafoepabpkaaDoorW.PrintLast Go.Proofs.YtjcmafoepabpkaaDoorW.PrintMore
theorem u0_ {a1 a2 p : Prop} (x1 : a1) (x2 : a2) (h : a1 → a2 → p := by intro x1_ x2_; repeat (first | (with_reducible first | exact HB.out | apply below_alloc | apply pw_below_drewN | apply below_drew1 | refine below_set ?_ x1_ | refine below_set ?_ x2_) | exact HB.out)) : p := h x1 x2
theorem u1_ {p : Prop} (h : p := by repeat (first | (with_reducible first | exact HBW.out | apply below_alloc | apply pw_below_drewN | apply below_drew1) | exact HBW.out)) : p := h
theorem u2_ {a1 p : Prop} (x1 : a1) (h : a1 → p := by intro x1_; repeat (first | (with_reducible first | exact HBW.out | apply below_alloc | apply pw_below_drewN | apply below_drew1 | refine below_set ?_ x1_) | exact HBW.out)) : p := h x1
theorem u3_ {a1 p : Prop} (x1 : a1) (h : a1 → p := by intro x1_; repeat (first | (with_reducible first | exact HB.out | apply below_alloc | apply pw_below_drewN | apply below_drew1 | refine below_set ?_ x1_) | exact HB.out)) : p := h x1
theorem u4_ {p : Prop} (h : p := by repeat (first | (with_reducible first | exact HK.out | apply KeepBut.set_ | apply keep_drewN | apply keep_drew | apply keep_alloc) | exact HK.out)) : p := h
theorem u5_ {p : Prop} (h : p := by repeat (first | (with_reducible first | exact HB.out | apply below_alloc | apply pw_below_drewN | apply below_drew1) | exact HB.out)) : p := h
theorem u6_ {a1 a2 a3 p : Prop} (x1 : a1) (x2 : a2) (x3 : a3) (h : a1 → a2 → a3 → p := by intro x1_ x2_ x3_; repeat (first | (with_reducible first | exact HB.out | apply below_alloc | apply pw_below_drewN | apply below_drew1 | refine below_set ?_ x1_ | refine below_set ?_ x2_ | refine below_set ?_ x3_) | exact HB.out)) : p := h x1 x2 x3
end Go.Proofs.YtjcmafoepabpkaaDoor.P
