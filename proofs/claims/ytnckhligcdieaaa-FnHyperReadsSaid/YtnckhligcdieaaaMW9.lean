/- Words for facts that a walk keeps. -/
import Derived.Test.YtnckhligcdieaaaMW8
import Derived.Test.YtnckhligcdieaaaPx1
namespace Go.Proofs.Ytnckhligcdieaaa.P
open Go.RowKit Go.Proofs.YtnckhligcdieaaaW.PrintWords Go.Proofs.YtnckhligcdieaaaW.PrintLast Go.Proofs.YtnckhligcdieaaaW.PrintMore
theorem u5_ {p : Prop} (h : p := by repeat (first | (with_reducible first | exact HI0.out | apply IsS86.alloc | apply IsS86.drewN | apply IsS86.drew | apply IsS86.set_1 | apply IsS86.set_2) | exact HI0.out)) : p := h
theorem u6_ {a1 p : Prop} (x1 : a1) (h : a1 → p := by intro x1_; repeat (first | (with_reducible first | exact HI0.out | apply IsS86.alloc | apply IsS86.drewN | apply IsS86.drew | apply IsS86.set_1 | apply IsS86.set_2 | refine IsS86.far ?_ x1_ _) | exact HI0.out)) : p := h x1
theorem u8_ {a1 a2 p : Prop} (x1 : a1) (x2 : a2) (h : a1 → a2 → p := by intro x1_ x2_; repeat (first | (with_reducible first | exact HI0.out | apply IsS86.alloc | apply IsS86.drewN | apply IsS86.drew | apply IsS86.set_1 | apply IsS86.set_2 | refine IsS86.far ?_ x1_ _ | refine IsS86.far ?_ x2_ _) | exact HI0.out)) : p := h x1 x2
theorem u11_ {a1 a2 a3 p : Prop} (x1 : a1) (x2 : a2) (x3 : a3) (h : a1 → a2 → a3 → p := by intro x1_ x2_ x3_; repeat (first | (with_reducible first | exact HI0.out | apply IsS86.alloc | apply IsS86.drewN | apply IsS86.drew | apply IsS86.set_1 | apply IsS86.set_2 | refine IsS86.far ?_ x1_ _ | refine IsS86.far ?_ x2_ _ | refine IsS86.far ?_ x3_ _) | exact HI0.out)) : p := h x1 x2 x3
theorem u15_ {p : Prop} (h : p := by repeat (first | (with_reducible first | exact HI530.out | apply IsS86.alloc | apply IsS86.drewN | apply IsS86.drew | apply IsS86.set_1 | apply IsS86.set_2) | exact HI530.out)) : p := h
theorem u16_ {a1 p : Prop} (x1 : a1) (h : a1 → p := by intro x1_; repeat (first | (with_reducible first | exact HI530.out | apply IsS86.alloc | apply IsS86.drewN | apply IsS86.drew | apply IsS86.set_1 | apply IsS86.set_2 | refine IsS86.far ?_ x1_ _) | exact HI530.out)) : p := h x1
theorem u17_ {a1 p : Prop} (x1 : a1) (h : a1 → p := by intro x1_; repeat (first | (with_reducible first | exact HI632.out | apply IsS86.alloc | apply IsS86.drewN | apply IsS86.drew | apply IsS86.set_1 | apply IsS86.set_2 | refine IsS86.far ?_ x1_ _) | exact HI632.out)) : p := h x1
end Go.Proofs.Ytnckhligcdieaaa.P
