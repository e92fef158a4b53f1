/- Short words for what the printed texts say often: each bears its own proof as its last, unwritten part. -/
import Derived.Test.YthdjmbbkenbeiaaDoorV0
import Derived.Below
namespace Go.Proofs.YthdjmbbkenbeiaaDoor.P
open Go.RowKit Go.Proofs.YthdjmbbkenbeiaaDoorW.PrintWords Go.Proofs.YthdjmbbkenbeiaaDoorW.PrintLast Go.Proofs.YthdjmbbkenbeiaaDoorW.PrintMore
theorem hB_ {p : Prop} (h : p := by repeat (first | (with_reducible first | exact HB.out | apply below_alloc | apply pw_below_drewN | apply below_drew1) | exact HB.out)) : p := h
theorem hS_ {a p : Prop} (x : a) (h : a → p := by intro x_; repeat (first | (with_reducible first | exact HB.out | apply below_alloc | apply pw_below_drewN | apply below_drew1 | refine below_set ?_ x_) | exact HB.out)) : p := h x
theorem rR_ {a p : Prop} (x : a) (h : a → p := by intro x_; (with_reducible repeat (first | apply Kd.R_alloc | apply Kd.R_drewN | apply Kd.R_drew)); exact x_) : p := h x
theorem rV_ {a p : Prop} (x : a) (h : a → p := by intro x_; (with_reducible repeat (first | apply Kd.V_alloc | apply Kd.V_drewN | apply Kd.V_drew)); exact x_) : p := h x
theorem rQ_ {a p : Prop} (x : a) (h : a → p := by intro x_; (with_reducible repeat (first | apply Kd.Q_alloc | apply Kd.Q_drewN | apply Kd.Q_drew)); exact x_) : p := h x
theorem rK_ {a p : Prop} (x : a) (h : a → p := by intro x_; (with_reducible repeat (first | refine blk_drewN ?_ _ | refine blk_drew ?_ | refine blk_alloc ?_ _)); exact x_) : p := h x
theorem aM_ {p : Prop} (h : p := by (try simp only [List.map_toArray, List.map_cons, List.map_nil]); first | done | rfl | (simp only [List.length_drop, List.length_take]; rfl)) : p := h
theorem cR_ {a p : Prop} (x : a) (h : a → p := by intro x_; repeat (first | exact x_ | (with_reducible refine Kd.C_alloc ?_ _) | (with_reducible refine Kd.C_drewN ?_ _) | (with_reducible refine Kd.C_drew ?_))) : p := h x
end Go.Proofs.YthdjmbbkenbeiaaDoor.P
