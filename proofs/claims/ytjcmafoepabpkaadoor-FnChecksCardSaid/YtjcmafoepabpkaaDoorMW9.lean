/- Words for facts that a walk keeps. -/
import Derived.Test.YtjcmafoepabpkaaDoorMW8
import Derived.Test.YtjcmafoepabpkaaDoorPx4
namespace Go.Proofs.YtjcmafoepabpkaaDoor.P
open Go.RowKit Go.Proofs.YtjcmafoepabpkaaDoorW.PrintWords Go.Proofs.YtjcmafoepabpkaaDoorW.PrintLast Go.Proofs.YtjcmafoepabpkaaDoorW.PrintMore
theorem u1_ {p : Prop} (h : p := by repeat (first | (with_reducible first | exact HI0.out | apply IsS103.alloc | apply IsS103.drewN | apply IsS103.drew | apply IsS103.set_1 | apply IsS103.set_2) | exact HI0.out)) : p := h
theorem u4_ {a1 p : Prop} (x1 : a1) (h : a1 → p := by intro x1_; repeat (first | (with_reducible first | exact HI0.out | apply IsS103.alloc | apply IsS103.drewN | apply IsS103.drew | apply IsS103.set_1 | apply IsS103.set_2 | refine IsS103.far ?_ x1_ _) | exact HI0.out)) : p := h x1
theorem u6_ {a1 a2 p : Prop} (x1 : a1) (x2 : a2) (h : a1 → a2 → p := by intro x1_ x2_; repeat (first | (with_reducible first | exact HI0.out | apply IsS103.alloc | apply IsS103.drewN | apply IsS103.drew | apply IsS103.set_1 | apply IsS103.set_2 | refine IsS103.far ?_ x1_ _ | refine IsS103.far ?_ x2_ _) | exact HI0.out)) : p := h x1 x2
theorem u9_ {a1 a2 a3 p : Prop} (x1 : a1) (x2 : a2) (x3 : a3) (h : a1 → a2 → a3 → p := by intro x1_ x2_ x3_; repeat (first | (with_reducible first | exact HI0.out | apply IsS103.alloc | apply IsS103.drewN | apply IsS103.drew | apply IsS103.set_1 | apply IsS103.set_2 | refine IsS103.far ?_ x1_ _ | refine IsS103.far ?_ x2_ _ | refine IsS103.far ?_ x3_ _) | exact HI0.out)) : p := h x1 x2 x3
theorem u12_ {a1 p : Prop} (x1 : a1) (h : a1 → p := by intro x1_; repeat (first | (with_reducible first | exact HI1034.out | apply IsS103.alloc | apply IsS103.drewN | apply IsS103.drew | apply IsS103.set_1 | apply IsS103.set_2 | refine IsS103.far ?_ x1_ _) | exact HI1034.out)) : p := h x1
theorem u13_ {a1 a2 p : Prop} (x1 : a1) (x2 : a2) (h : a1 → a2 → p := by intro x1_ x2_; repeat (first | (with_reducible first | exact HI1034.out | apply IsS103.alloc | apply IsS103.drewN | apply IsS103.drew | apply IsS103.set_1 | apply IsS103.set_2 | refine IsS103.far ?_ x1_ _ | refine IsS103.far ?_ x2_ _) | exact HI1034.out)) : p := h x1 x2
theorem u15_ {p : Prop} (h : p := by repeat (first | (with_reducible first | exact HI1077.out | apply IsS103.alloc | apply IsS103.drewN | apply IsS103.drew | apply IsS103.set_1 | apply IsS103.set_2) | exact HI1077.out)) : p := h
theorem u16_ {a1 p : Prop} (x1 : a1) (h : a1 → p := by intro x1_; repeat (first | (with_reducible first | exact HI1077.out | apply IsS103.alloc | apply IsS103.drewN | apply IsS103.drew | apply IsS103.set_1 | apply IsS103.set_2 | refine IsS103.far ?_ x1_ _) | exact HI1077.out)) : p := h x1
end Go.Proofs.YtjcmafoepabpkaaDoor.P
