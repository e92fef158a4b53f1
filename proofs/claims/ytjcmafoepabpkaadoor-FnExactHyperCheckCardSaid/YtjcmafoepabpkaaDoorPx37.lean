-- printed texts of this session, regrouped
import Derived.Test.YtjcmafoepabpkaaDoorPx0
import Derived.Test.YtjcmafoepabpkaaDoorPx32
namespace Go.Proofs.YtjcmafoepabpkaaDoor.P
open Go.RowKit Go.Proofs.YtjcmafoepabpkaaDoorW.PrintWords Go.Proofs.YtjcmafoepabpkaaDoorW.PrintLast Go.Proofs.YtjcmafoepabpkaaDoorW.PrintMore
attribute [local go_sem] max2_int min2_int max_two min_two max_three min_three max_four min_four   -- for this text's walks alone
set_option linter.unusedVariables false
set_option linter.unusedSimpArgs false

/-! ### spec_HyperCheck: function 34 -/
def spec_HyperCheck.f (k : Nat) (a0 : ByteArray) (a1 : ByteArray) (a2_0 : Int) (l2_1 : List ByteArray) (l2_2 : List ByteArray) (a2_3 : ByteArray) (a2_4 : Int) (l2_5 : List ByteArray) (l2_6 : List ByteArray) : Option (Bool) := (spec_CheckSig.f k a0 a2_3 a2_0 l2_1 l2_2).bind fun t522 => (if t522 = true then ((spec_CheckSig.f k a2_3 a1 a2_4 l2_5 l2_6).bind fun t523 => (some t523)) else (some false))
theorem spec_HyperCheck.mono : ∀ a0 a1 a2 a3 a4 a5 a6 a7 a8 k, LeO (spec_HyperCheck.f k a0 a1 a2 a3 a4 a5 a6 a7 a8) (spec_HyperCheck.f (k + 1) a0 a1 a2 a3 a4 a5 a6 a7 a8) := by
 intro a0 a1 a2 a3 a4 a5 a6 a7 a8 k
 unfold spec_HyperCheck.f
 repeat' first
   | (with_reducible exact spec_CheckSig.mono _ _ _ _ _ _)
   | (with_reducible exact LeO.refl _)
   | (with_reducible exact LeO.none _)
   | (with_reducible refine LeO.ite ?_ ?_)
   | (with_reducible refine LeO.bind ?_ (fun _ => ?_))
   | exact spec_CheckSig.mono _ _ _ _ _ _
   | exact LeO.none _
   | refine LeO.ite ?_ ?_
   | refine LeO.bind ?_ (fun _ => ?_)
set_option maxHeartbeats 8000000 in
set_option maxRecDepth 100000 in
theorem spec_HyperCheck.calls (k : Nat) (a0 : ByteArray) (a1 : ByteArray) (a2_0 : Int) (A2_1 : Option Addr) (c2_1 : Nat) (l2_1 : List ByteArray) (A2_2 : Option Addr) (c2_2 : Nat) (l2_2 : List ByteArray) (a2_3 : ByteArray) (a2_4 : Int) (A2_5 : Option Addr) (c2_5 : Nat) (l2_5 : List ByteArray) (A2_6 : Option Addr) (c2_6 : Nat) (l2_6 : List ByteArray) (r : Bool) (w : World) (hr2_1 : Kd.C Kd.string w A2_1 l2_1.length l2_1) (hc2_1 : l2_1.length ≤ c2_1) (hr2_2 : Kd.C Kd.string w A2_2 l2_2.length l2_2) (hc2_2 : l2_2.length ≤ c2_2) (hr2_5 : Kd.C Kd.string w A2_5 l2_5.length l2_5) (hc2_5 : l2_5.length ≤ c2_5) (hr2_6 : Kd.C Kd.string w A2_6 l2_6.length l2_6) (hc2_6 : l2_6.length ≤ c2_6) (h : spec_HyperCheck.f k a0 a1 a2_0 l2_1 l2_2 a2_3 a2_4 l2_5 l2_6 = some r) :
  Calls Tryd.prog 34 #[.string a0, .string a1, .agg #[.int .i64 a2_0, .slice A2_1 l2_1.length c2_1, .slice A2_2 l2_2.length c2_2, .string a2_3, .int .i64 a2_4, .slice A2_5 l2_5.length c2_5, .slice A2_6 l2_6.length c2_6]] w fun e w' => e = .returned (.bool r) ∧ Below w.heap.size w w' := by
 have hu51 := Tryd.underlying51
 have hu42 := Tryd.underlying42
 have HR2_1 := Aside0.mk hr2_1
 have HC2_1 := Aside0.mk hc2_1
 clear hr2_1 hc2_1
 have HR2_2 := Aside0.mk hr2_2
 have HC2_2 := Aside0.mk hc2_2
 clear hr2_2 hc2_2
 have HR2_5 := Aside0.mk hr2_5
 have HC2_5 := Aside0.mk hc2_5
 clear hr2_5 hc2_5
 have HR2_6 := Aside0.mk hr2_6
 have HC2_6 := Aside0.mk hc2_6
 clear hr2_6 hc2_6
 have HB := Aside0.mk (Below.refl w.heap.size w)
 have H : ((spec_CheckSig.f k a0 a2_3 a2_0 l2_1 l2_2).bind fun t522 => (if t522 = true then ((spec_CheckSig.f k a2_3 a1 a2_4 l2_5 l2_6).bind fun t523 => (some t523)) else (some false))) = some r := h
 clear h
 replace H := Option.bind_eq_some_iff.mp H
 obtain ⟨t522, A40, H⟩ := H
 replace H : (if t522 = true then ((spec_CheckSig.f k a2_3 a1 a2_4 l2_5 l2_6).bind fun t523 => (some t523)) else (some false)) = some r := H
 have A4 := Aside0.mk A40
 clear A40
 by_cases c5 : t522 = true
 ·subst c5
  have H1 : ((spec_CheckSig.f k a2_3 a1 a2_4 l2_5 l2_6).bind fun t523 => (some t523)) = some r := by rw [if_pos rfl] at H; exact H
  clear H
  have H := H1
  clear H1
  replace H := Option.bind_eq_some_iff.mp H
  obtain ⟨t523, A60, H⟩ := H
  replace H : (some t523) = some r := H
  have A6 := Aside0.mk A60
  clear A60
  obtain rfl := Option.some.inj H
  go_enter Tryd.func34, Tryd.ntmps34
  go_wp2_with (first | ((with_reducible refine gate_dst (N := 5) rfl ?_); refine box_event ?hg (N := 5) ?hd (cs := #[.int .i64 a2_0, .slice A2_1 l2_1.length c2_1, .slice A2_2 l2_2.length c2_2, .string a2_3, .int .i64 a2_4, .slice A2_5 l2_5.length c2_5, .slice A2_6 l2_6.length c2_6]) (t := 51) ?hr ?_; (case hd => rfl); (case hg => rfl); (case hr => first | (go_simp; done) | (go_simp; rfl)); intro gb521 hg w7 hbox hb; have n0_ := Aside0.mk (below_step (by repeat (first | (with_reducible first | exact HB.out | apply below_alloc | apply pw_below_drewN | apply below_drew1) | exact HB.out)) hb); have n1_ := Aside0.mk (hbox); have n2_ := Aside0.mk ((by rw [hg]; exact (below_size (by repeat (first | (with_reducible first | exact HB.out | apply below_alloc | apply pw_below_drewN | apply below_drew1) | exact HB.out))) : w.heap.size ≤ gb521)); have n3_ := Aside0.mk ((by rw [hg]; exact (below_size (by repeat (first | (with_reducible first | exact HB.out | apply below_alloc | apply pw_below_drewN | apply below_drew1) | exact HB.out))) : w.heap.size ≤ gb521)); clear HB; have HB := n0_; have BK521 := n1_; have GW521 := n2_; have GE521 := n3_; clear n0_ n1_ n2_ n3_; clear hb hbox hg; have hcz8_0 : w7.cell? ⟨gb521, 0, none⟩ = some (.int .i64 a2_0) := (blk_cell BK521.out 0).trans rfl; have hcz8_1 : w7.cell? ⟨gb521, 1, none⟩ = some (.slice A2_1 l2_1.length c2_1) := (blk_cell BK521.out 1).trans rfl; have hcz8_2 : w7.cell? ⟨gb521, 2, none⟩ = some (.slice A2_2 l2_2.length c2_2) := (blk_cell BK521.out 2).trans rfl; have hcz8_3 : w7.cell? ⟨gb521, 3, none⟩ = some (.string a2_3) := (blk_cell BK521.out 3).trans rfl; have hcz8_4 : w7.cell? ⟨gb521, 4, none⟩ = some (.int .i64 a2_4) := (blk_cell BK521.out 4).trans rfl; have hcz8_5 : w7.cell? ⟨gb521, 5, none⟩ = some (.slice A2_5 l2_5.length c2_5) := (blk_cell BK521.out 5).trans rfl; have hcz8_6 : w7.cell? ⟨gb521, 6, none⟩ = some (.slice A2_6 l2_6.length c2_6) := (blk_cell BK521.out 6).trans rfl; have hfz8_0 := blk_frozen BK521.out 0; have hfz8_1 := blk_frozen BK521.out 1; have hfz8_2 := blk_frozen BK521.out 2; have hfz8_3 := blk_frozen BK521.out 3; have hfz8_4 := blk_frozen BK521.out 4; have hfz8_5 := blk_frozen BK521.out 5; have hfz8_6 := blk_frozen BK521.out 6) | ((with_reducible refine gate_callee (f := 29) rfl ?_); refine goesL_ (some 12) rfl rfl Tryd.func29 (by kernel_rfl) rfl #[.string a0, .string a2_3, .agg #[.int .i64 a2_0, .slice A2_1 l2_1.length c2_1, .slice A2_2 l2_2.length c2_2]] rfl (by (try simp only [List.map_toArray, List.map_cons, List.map_nil]); first | done | rfl | (simp only [List.length_drop, List.length_take]; rfl)) ?_; (with_reducible refine (spec_CheckSig.calls k a0 a2_3 a2_0 _ _ l2_1 _ _ l2_2 true _ ?side1 ?side2 ?side3 ?side4 A4.out).mono ?_); (case side1 => repeat (first | exact (Kd.C_below HR2_1.out HB.out) | (with_reducible refine Kd.C_alloc ?_ _) | (with_reducible refine Kd.C_drewN ?_ _) | (with_reducible refine Kd.C_drew ?_))); (case side2 => exact HC2_1.out); (case side3 => repeat (first | exact (Kd.C_below HR2_2.out HB.out) | (with_reducible refine Kd.C_alloc ?_ _) | (with_reducible refine Kd.C_drewN ?_ _) | (with_reducible refine Kd.C_drew ?_))); (case side4 => exact HC2_2.out); rintro e w9 ⟨rfl, hb⟩; refine ⟨_, rfl, ?_⟩; have n0_ := Aside0.mk (blk_below (g := gb521) (o := .cells #[.int .i64 a2_0, .slice A2_1 l2_1.length c2_1, .slice A2_2 l2_2.length c2_2, .string a2_3, .int .i64 a2_4, .slice A2_5 l2_5.length c2_5, .slice A2_6 l2_6.length c2_6] 51 (0, 0)) (by (with_reducible repeat (first | refine blk_drewN ?_ _ | refine blk_drew ?_ | refine blk_alloc ?_ _)); exact BK521.out) hb); have n1_ := Aside0.mk (below_step (by repeat (first | (with_reducible first | exact HB.out | apply below_alloc | apply pw_below_drewN | apply below_drew1 | refine below_set ?_ GE521.out) | exact HB.out)) hb); clear BK521; clear HB; have BK521 := n0_; have HB := n1_; clear n0_ n1_; (try clear hb); (try clear hb2); (try clear hk); (try clear hi); have hcz10_0 : w9.cell? ⟨gb521, 0, none⟩ = some (.int .i64 a2_0) := (blk_cell BK521.out 0).trans rfl; have hcz10_1 : w9.cell? ⟨gb521, 1, none⟩ = some (.slice A2_1 l2_1.length c2_1) := (blk_cell BK521.out 1).trans rfl; have hcz10_2 : w9.cell? ⟨gb521, 2, none⟩ = some (.slice A2_2 l2_2.length c2_2) := (blk_cell BK521.out 2).trans rfl; have hcz10_3 : w9.cell? ⟨gb521, 3, none⟩ = some (.string a2_3) := (blk_cell BK521.out 3).trans rfl; have hcz10_4 : w9.cell? ⟨gb521, 4, none⟩ = some (.int .i64 a2_4) := (blk_cell BK521.out 4).trans rfl; have hcz10_5 : w9.cell? ⟨gb521, 5, none⟩ = some (.slice A2_5 l2_5.length c2_5) := (blk_cell BK521.out 5).trans rfl; have hcz10_6 : w9.cell? ⟨gb521, 6, none⟩ = some (.slice A2_6 l2_6.length c2_6) := (blk_cell BK521.out 6).trans rfl; have hfz10_0 := blk_frozen BK521.out 0; have hfz10_1 := blk_frozen BK521.out 1; have hfz10_2 := blk_frozen BK521.out 2; have hfz10_3 := blk_frozen BK521.out 3; have hfz10_4 := blk_frozen BK521.out 4; have hfz10_5 := blk_frozen BK521.out 5; have hfz10_6 := blk_frozen BK521.out 6) | (go_at_call 29; (with_reducible refine (spec_CheckSig.calls k a2_3 a1 a2_4 _ _ l2_5 _ _ l2_6 t523 _ ?side1 ?side2 ?side3 ?side4 A6.out).mono ?_); (case side1 => repeat (first | exact (Kd.C_below HR2_5.out HB.out) | (with_reducible refine Kd.C_alloc ?_ _) | (with_reducible refine Kd.C_drewN ?_ _) | (with_reducible refine Kd.C_drew ?_))); (case side2 => exact HC2_5.out); (case side3 => repeat (first | exact (Kd.C_below HR2_6.out HB.out) | (with_reducible refine Kd.C_alloc ?_ _) | (with_reducible refine Kd.C_drewN ?_ _) | (with_reducible refine Kd.C_drew ?_))); (case side4 => exact HC2_6.out); rintro e w11 ⟨rfl, hb⟩; have n0_ := Aside0.mk (blk_below (g := gb521) (o := .cells #[.int .i64 a2_0, .slice A2_1 l2_1.length c2_1, .slice A2_2 l2_2.length c2_2, .string a2_3, .int .i64 a2_4, .slice A2_5 l2_5.length c2_5, .slice A2_6 l2_6.length c2_6] 51 (0, 0)) (by (with_reducible repeat (first | refine blk_drewN ?_ _ | refine blk_drew ?_ | refine blk_alloc ?_ _)); exact BK521.out) hb); have n1_ := Aside0.mk (below_step (by repeat (first | (with_reducible first | exact HB.out | apply below_alloc | apply pw_below_drewN | apply below_drew1 | refine below_set ?_ GE521.out) | exact HB.out)) hb); clear BK521; clear HB; have BK521 := n0_; have HB := n1_; clear n0_ n1_; (try clear hb); (try clear hb2); (try clear hk); (try clear hi)))
  go_ret
  exact ⟨by first | rfl | (simp [errW_none, errW_some] <;> rfl) | (simp [*, errW_none, errW_some] <;> rfl), by repeat (first | (with_reducible first | exact HB.out | apply below_alloc | apply pw_below_drewN | apply below_drew1 | refine below_set ?_ GE521.out) | exact HB.out)⟩
 ·replace c5 := Bool.eq_false_iff.mpr c5
  subst c5
  have H1 : (some false) = some r := by rw [if_neg (show ¬ (false = true) by decide)] at H; exact H
  clear H
  have H := H1
  clear H1
  obtain rfl := Option.some.inj H
  go_enter Tryd.func34, Tryd.ntmps34
  go_wp2_with (first | ((with_reducible refine gate_dst (N := 5) rfl ?_); refine box_event ?hg (N := 5) ?hd (cs := #[.int .i64 a2_0, .slice A2_1 l2_1.length c2_1, .slice A2_2 l2_2.length c2_2, .string a2_3, .int .i64 a2_4, .slice A2_5 l2_5.length c2_5, .slice A2_6 l2_6.length c2_6]) (t := 51) ?hr ?_; (case hd => rfl); (case hg => rfl); (case hr => first | (go_simp; done) | (go_simp; rfl)); intro gb521 hg w12 hbox hb; have n0_ := Aside0.mk (below_step (by repeat (first | (with_reducible first | exact HB.out | apply below_alloc | apply pw_below_drewN | apply below_drew1) | exact HB.out)) hb); have n1_ := Aside0.mk (hbox); have n2_ := Aside0.mk ((by rw [hg]; exact (below_size (by repeat (first | (with_reducible first | exact HB.out | apply below_alloc | apply pw_below_drewN | apply below_drew1) | exact HB.out))) : w.heap.size ≤ gb521)); have n3_ := Aside0.mk ((by rw [hg]; exact (below_size (by repeat (first | (with_reducible first | exact HB.out | apply below_alloc | apply pw_below_drewN | apply below_drew1) | exact HB.out))) : w.heap.size ≤ gb521)); clear HB; have HB := n0_; have BK521 := n1_; have GW521 := n2_; have GE521 := n3_; clear n0_ n1_ n2_ n3_; clear hb hbox hg; have hcz13_0 : w12.cell? ⟨gb521, 0, none⟩ = some (.int .i64 a2_0) := (blk_cell BK521.out 0).trans rfl; have hcz13_1 : w12.cell? ⟨gb521, 1, none⟩ = some (.slice A2_1 l2_1.length c2_1) := (blk_cell BK521.out 1).trans rfl; have hcz13_2 : w12.cell? ⟨gb521, 2, none⟩ = some (.slice A2_2 l2_2.length c2_2) := (blk_cell BK521.out 2).trans rfl; have hcz13_3 : w12.cell? ⟨gb521, 3, none⟩ = some (.string a2_3) := (blk_cell BK521.out 3).trans rfl; have hcz13_4 : w12.cell? ⟨gb521, 4, none⟩ = some (.int .i64 a2_4) := (blk_cell BK521.out 4).trans rfl; have hcz13_5 : w12.cell? ⟨gb521, 5, none⟩ = some (.slice A2_5 l2_5.length c2_5) := (blk_cell BK521.out 5).trans rfl; have hcz13_6 : w12.cell? ⟨gb521, 6, none⟩ = some (.slice A2_6 l2_6.length c2_6) := (blk_cell BK521.out 6).trans rfl; have hfz13_0 := blk_frozen BK521.out 0; have hfz13_1 := blk_frozen BK521.out 1; have hfz13_2 := blk_frozen BK521.out 2; have hfz13_3 := blk_frozen BK521.out 3; have hfz13_4 := blk_frozen BK521.out 4; have hfz13_5 := blk_frozen BK521.out 5; have hfz13_6 := blk_frozen BK521.out 6) | ((with_reducible refine gate_callee (f := 29) rfl ?_); refine goesL_ (some 12) rfl rfl Tryd.func29 (by kernel_rfl) rfl #[.string a0, .string a2_3, .agg #[.int .i64 a2_0, .slice A2_1 l2_1.length c2_1, .slice A2_2 l2_2.length c2_2]] rfl (by (try simp only [List.map_toArray, List.map_cons, List.map_nil]); first | done | rfl | (simp only [List.length_drop, List.length_take]; rfl)) ?_; (with_reducible refine (spec_CheckSig.calls k a0 a2_3 a2_0 _ _ l2_1 _ _ l2_2 false _ ?side1 ?side2 ?side3 ?side4 A4.out).mono ?_); (case side1 => repeat (first | exact (Kd.C_below HR2_1.out HB.out) | (with_reducible refine Kd.C_alloc ?_ _) | (with_reducible refine Kd.C_drewN ?_ _) | (with_reducible refine Kd.C_drew ?_))); (case side2 => exact HC2_1.out); (case side3 => repeat (first | exact (Kd.C_below HR2_2.out HB.out) | (with_reducible refine Kd.C_alloc ?_ _) | (with_reducible refine Kd.C_drewN ?_ _) | (with_reducible refine Kd.C_drew ?_))); (case side4 => exact HC2_2.out); rintro e w14 ⟨rfl, hb⟩; refine ⟨_, rfl, ?_⟩; have n0_ := Aside0.mk (blk_below (g := gb521) (o := .cells #[.int .i64 a2_0, .slice A2_1 l2_1.length c2_1, .slice A2_2 l2_2.length c2_2, .string a2_3, .int .i64 a2_4, .slice A2_5 l2_5.length c2_5, .slice A2_6 l2_6.length c2_6] 51 (0, 0)) (by (with_reducible repeat (first | refine blk_drewN ?_ _ | refine blk_drew ?_ | refine blk_alloc ?_ _)); exact BK521.out) hb); have n1_ := Aside0.mk (below_step (by repeat (first | (with_reducible first | exact HB.out | apply below_alloc | apply pw_below_drewN | apply below_drew1 | refine below_set ?_ GE521.out) | exact HB.out)) hb); clear BK521; clear HB; have BK521 := n0_; have HB := n1_; clear n0_ n1_; (try clear hb); (try clear hb2); (try clear hk); (try clear hi)))
  go_ret
  exact ⟨by first | rfl | (simp [errW_none, errW_some] <;> rfl) | (simp [*, errW_none, errW_some] <;> rfl), by repeat (first | (with_reducible first | exact HB.out | apply below_alloc | apply pw_below_drewN | apply below_drew1 | refine below_set ?_ GE521.out) | exact HB.out)⟩

end Go.Proofs.YtjcmafoepabpkaaDoor.P
