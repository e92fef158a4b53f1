-- printed texts of this session, regrouped
import Derived.Test.YtjcmafoepabpkaaDoorMW7
import Derived.Test.YtjcmafoepabpkaaDoorMW8
import Derived.Test.YtjcmafoepabpkaaDoorMW6
import Derived.Test.YtjcmafoepabpkaaDoorPx0
import Derived.Test.YtjcmafoepabpkaaDoorPx4
import Derived.Test.YtjcmafoepabpkaaDoorPx7
import Derived.Test.YtjcmafoepabpkaaDoorPx10
import Derived.Test.YtjcmafoepabpkaaDoorPx13
import Derived.Test.YtjcmafoepabpkaaDoorPx23
namespace Go.Proofs.YtjcmafoepabpkaaDoor.P
open Go.RowKit Go.Proofs.YtjcmafoepabpkaaDoorW.PrintWords Go.Proofs.YtjcmafoepabpkaaDoorW.PrintLast Go.Proofs.YtjcmafoepabpkaaDoorW.PrintMore
attribute [local go_sem] max2_int min2_int max_two min_two max_three min_three max_four min_four   -- for this text's walks alone
set_option linter.unusedVariables false
set_option linter.unusedSimpArgs false

/-! ### laws_FnChecks: function 11 -/
def laws_FnChecks.j0 : Nat → List Int → Bool → Option (Bool)
 | 0, _, _ => none
 | k + 1, x0, x46 => if x46 = true then (none) else ((spec_DrawReadSig.f k x0).bind fun t1119 => ((impl_ReadSig.f k t1119).bind fun bt1120 => ((spec_ReadSig.f k t1119).bind fun bt1129 => ((impl_SigText.f k bt1120.1 bt1120.2.1 bt1120.2.2.1).bind fun bt1138 => (if (bt1120.2.2.2 == bt1129.2.2.2) = true then (if bt1120.2.2.2 = true then (some (bt1138.1.toList == t1119.toList)) else (some true)) else (none))))))
def laws_FnChecks.f (k : Nat) (l0 : List Int) : Option (Bool) := (laws_big.f l0).bind fun t1103 => (if t1103 = true then (some true) else ((spec_DrawCheckSig.f k l0).bind fun bt1104 => ((impl_CheckSig.f k bt1104.1 bt1104.2.1 bt1104.2.2.1 bt1104.2.2.2.1 bt1104.2.2.2.2).bind fun t1114 => ((spec_CheckSig.f k bt1104.1 bt1104.2.1 bt1104.2.2.1 bt1104.2.2.2.1 bt1104.2.2.2.2).bind fun t1115 => (if (t1114 != t1115) = true then (laws_FnChecks.j0 k l0 true) else ((impl_SigOk.f k bt1104.2.2.1 bt1104.2.2.2.1 bt1104.2.2.2.2).bind fun t1116 => ((spec_SigOk.f k bt1104.2.2.1 bt1104.2.2.2.1 bt1104.2.2.2.2).bind fun t1117 => (if (t1116 != t1117) = true then (laws_FnChecks.j0 k l0 true) else (if t1114 = true then ((spec_SigOk.f k bt1104.2.2.1 bt1104.2.2.2.1 bt1104.2.2.2.2).bind fun t1118 => (laws_FnChecks.j0 k l0 (!t1118))) else (laws_FnChecks.j0 k l0 false))))))))))
theorem laws_FnChecks.mono_l : ∀ k, (∀ y0 y1, LeO (laws_FnChecks.j0 k y0 y1) (laws_FnChecks.j0 (k + 1) y0 y1))
 | 0 => fun _ _ r h => by simp [laws_FnChecks.j0] at h
 | k + 1 => by
  have ih0 := laws_FnChecks.mono_l k
  ·intro y0 y1
   unfold laws_FnChecks.j0
   repeat' first
   | (with_reducible exact ih0 _ _)
   | (with_reducible exact impl_CheckSig.mono _ _ _ _ _ _)
   | (with_reducible exact impl_ReadSig.mono _ _)
   | (with_reducible exact impl_SigOk.mono _ _ _ _)
   | (with_reducible exact impl_SigText.mono _ _ _ _)
   | (with_reducible exact spec_CheckSig.mono _ _ _ _ _ _)
   | (with_reducible exact spec_DrawCheckSig.mono _ _)
   | (with_reducible exact spec_DrawReadSig.mono _ _)
   | (with_reducible exact spec_ReadSig.mono _ _)
   | (with_reducible exact spec_SigOk.mono _ _ _ _)
   | (with_reducible exact LeO.refl _)
   | (with_reducible exact LeO.none _)
   | (with_reducible refine LeO.ite ?_ ?_)
   | (with_reducible refine LeO.bind ?_ (fun _ => ?_))
   | exact ih0 _ _
   | exact impl_CheckSig.mono _ _ _ _ _ _
   | exact impl_ReadSig.mono _ _
   | exact impl_SigOk.mono _ _ _ _
   | exact impl_SigText.mono _ _ _ _
   | exact spec_CheckSig.mono _ _ _ _ _ _
   | exact spec_DrawCheckSig.mono _ _
   | exact spec_DrawReadSig.mono _ _
   | exact spec_ReadSig.mono _ _
   | exact spec_SigOk.mono _ _ _ _
   | exact LeO.none _
   | refine LeO.ite ?_ ?_
   | refine LeO.bind ?_ (fun _ => ?_)
theorem laws_FnChecks.mono : ∀ a0 k, LeO (laws_FnChecks.f k a0) (laws_FnChecks.f (k + 1) a0) := by
 intro a0 k
 have ih0 := laws_FnChecks.mono_l k
 unfold laws_FnChecks.f
 repeat' first
   | (with_reducible exact ih0 _ _)
   | (with_reducible exact impl_CheckSig.mono _ _ _ _ _ _)
   | (with_reducible exact impl_ReadSig.mono _ _)
   | (with_reducible exact impl_SigOk.mono _ _ _ _)
   | (with_reducible exact impl_SigText.mono _ _ _ _)
   | (with_reducible exact spec_CheckSig.mono _ _ _ _ _ _)
   | (with_reducible exact spec_DrawCheckSig.mono _ _)
   | (with_reducible exact spec_DrawReadSig.mono _ _)
   | (with_reducible exact spec_ReadSig.mono _ _)
   | (with_reducible exact spec_SigOk.mono _ _ _ _)
   | (with_reducible exact LeO.refl _)
   | (with_reducible exact LeO.none _)
   | (with_reducible refine LeO.ite ?_ ?_)
   | (with_reducible refine LeO.bind ?_ (fun _ => ?_))
   | exact ih0 _ _
   | exact impl_CheckSig.mono _ _ _ _ _ _
   | exact impl_ReadSig.mono _ _
   | exact impl_SigOk.mono _ _ _ _
   | exact impl_SigText.mono _ _ _ _
   | exact spec_CheckSig.mono _ _ _ _ _ _
   | exact spec_DrawCheckSig.mono _ _
   | exact spec_DrawReadSig.mono _ _
   | exact spec_ReadSig.mono _ _
   | exact spec_SigOk.mono _ _ _ _
   | exact LeO.none _
   | refine LeO.ite ?_ ?_
   | refine LeO.bind ?_ (fun _ => ?_)
def laws_FnChecks.T5 : Bool × List (List Nat × List Nat) := (true, [([], []), ([], []), ([], []), ([], []), ([1, 2, 3], [1, 2, 3]), ([0, 4], [0, 4]), ([5, 4], [5]), ([6], [6]), ([7, 6, 6], [6, 7]), ([6], [6]), ([9, 8, 6], [6, 9]), ([8, 10, 6], [6, 8, 10]), ([6, 11], [6, 11]), ([12, 10], [12]), ([13], [13]), ([14, 13, 13], [13, 14]), ([15], [15]), ([16, 15, 15], [15, 16]), ([17, 15], [15, 17]), ([15, 18, 13], [13, 15, 18]), ([13, 19], [13, 19])])
def laws_FnChecks.B5 : List Nat := [0, 0, 0, 0, 14, 31, 63, 127, 255, 127, 1023, 2047, 4095, 8191, 16383, 32767, 65535, 131071, 262143, 524287, 1048575]
theorem laws_FnChecks.tab5 : rtab .any (opsOf Tryd.f11 5) = laws_FnChecks.T5 := by kernel_rfl
theorem laws_FnChecks.bits5 : waitsOk laws_FnChecks.T5.2 laws_FnChecks.B5 = true := by kernel_rfl
set_option maxHeartbeats 8000000 in
set_option maxRecDepth 100000 in
theorem laws_FnChecks.calls (k : Nat) (A0 : Option Addr) (c0 : Nat) (l0 : List Int) (r : Bool) (w : World) (hr0 : Kd.C (Kd.int .u8) w A0 l0.length l0) (hc0 : l0.length ≤ c0) (h : laws_FnChecks.f k l0 = some r) (hLD : Laid w) :
  Calls Tryd.prog 11 #[.slice A0 l0.length c0] w fun e w' => e = .returned (.bool r) ∧ Below w.heap.size w w' := by
 have HLD := Aside0.mk hLD
 clear hLD
 have hu42 := Tryd.underlying42
 have HR0 := Aside0.mk hr0
 have HC0 := Aside0.mk hc0
 clear hr0 hc0
 have HB := Aside0.mk (Below.refl w.heap.size w)
 have H : ((laws_big.f l0).bind fun t1103 => (if t1103 = true then (some true) else ((spec_DrawCheckSig.f k l0).bind fun bt1104 => ((impl_CheckSig.f k bt1104.1 bt1104.2.1 bt1104.2.2.1 bt1104.2.2.2.1 bt1104.2.2.2.2).bind fun t1114 => ((spec_CheckSig.f k bt1104.1 bt1104.2.1 bt1104.2.2.1 bt1104.2.2.2.1 bt1104.2.2.2.2).bind fun t1115 => (if (t1114 != t1115) = true then (laws_FnChecks.j0 k l0 true) else ((impl_SigOk.f k bt1104.2.2.1 bt1104.2.2.2.1 bt1104.2.2.2.2).bind fun t1116 => ((spec_SigOk.f k bt1104.2.2.1 bt1104.2.2.2.1 bt1104.2.2.2.2).bind fun t1117 => (if (t1116 != t1117) = true then (laws_FnChecks.j0 k l0 true) else (if t1114 = true then ((spec_SigOk.f k bt1104.2.2.1 bt1104.2.2.2.1 bt1104.2.2.2.2).bind fun t1118 => (laws_FnChecks.j0 k l0 (!t1118))) else (laws_FnChecks.j0 k l0 false))))))))))) = some r := h
 clear h
 replace H := Option.bind_eq_some_iff.mp H
 obtain ⟨t1103, A20, H⟩ := H
 try dsimp -simprocs only at H
 have A2 := Aside0.mk A20
 clear A20
 by_cases c3 : t1103 = true
 ·subst c3
  have H1 : (some true) = some r := by rw [if_pos rfl] at H; exact H
  clear H
  have H := H1
  clear H1
  obtain rfl := Option.some.inj H
  go_enter Tryd.func11, Tryd.ntmps11
  go_wp2_with (first | ((with_reducible refine gate_callee (f := 20) rfl ?_); refine goesL_ (some 15) rfl rfl Tryd.func20 (by kernel_rfl) rfl #[.slice A0 l0.length c0] rfl aM_ ?_; (with_reducible refine (laws_big.calls _ _ l0 true _ ?side1 ?side2 A2.out).mono ?_); (case side1 => exact cR_ HR0.out); (case side2 => exact HC0.out); rintro e w' ⟨rfl, ⟨nd, rfl⟩⟩; refine ⟨_, rfl, ?_⟩))
  go_ret
  exact ⟨by first | rfl | (simp [errW_none, errW_some] <;> rfl) | (simp [*, errW_none, errW_some] <;> rfl), hB_⟩
 ·replace c3 := Bool.eq_false_iff.mpr c3
  subst c3
  have H1 : ((spec_DrawCheckSig.f k l0).bind fun bt1104 => ((impl_CheckSig.f k bt1104.1 bt1104.2.1 bt1104.2.2.1 bt1104.2.2.2.1 bt1104.2.2.2.2).bind fun t1114 => ((spec_CheckSig.f k bt1104.1 bt1104.2.1 bt1104.2.2.1 bt1104.2.2.2.1 bt1104.2.2.2.2).bind fun t1115 => (if (t1114 != t1115) = true then (laws_FnChecks.j0 k l0 true) else ((impl_SigOk.f k bt1104.2.2.1 bt1104.2.2.2.1 bt1104.2.2.2.2).bind fun t1116 => ((spec_SigOk.f k bt1104.2.2.1 bt1104.2.2.2.1 bt1104.2.2.2.2).bind fun t1117 => (if (t1116 != t1117) = true then (laws_FnChecks.j0 k l0 true) else (if t1114 = true then ((spec_SigOk.f k bt1104.2.2.1 bt1104.2.2.2.1 bt1104.2.2.2.2).bind fun t1118 => (laws_FnChecks.j0 k l0 (!t1118))) else (laws_FnChecks.j0 k l0 false))))))))) = some r := by rw [if_neg (show ¬ (false = true) by decide)] at H; exact H
  clear H
  have H := H1
  clear H1
  replace H := Option.bind_eq_some_iff.mp H
  obtain ⟨⟨t1104, t1105, t1106, t1107, t1110⟩, A40, H⟩ := H
  try dsimp -simprocs only at H
  have A4 := Aside0.mk A40
  clear A40
  replace H := Option.bind_eq_some_iff.mp H
  obtain ⟨t1114, A50, H⟩ := H
  try dsimp -simprocs only at H
  have A5 := Aside0.mk A50
  clear A50
  have HC6 := Aside0.mk H
  clear H
  go_enter Tryd.func11, Tryd.ntmps11
  go_upto_region 5 with (first | ((with_reducible refine gate_callee (f := 20) rfl ?_); refine goesL_ (some 15) rfl rfl Tryd.func20 (by kernel_rfl) rfl #[.slice A0 l0.length c0] rfl aM_ ?_; (with_reducible refine (laws_big.calls _ _ l0 false _ ?side1 ?side2 A2.out).mono ?_); (case side1 => exact cR_ HR0.out); (case side2 => exact HC0.out); rintro e w' ⟨rfl, ⟨nd, rfl⟩⟩; refine ⟨_, rfl, ?_⟩) | ((with_reducible refine gate_callee (f := 52) rfl ?_); refine goesL_ (some 18) rfl rfl Tryd.func52 (by kernel_rfl) rfl #[.slice A0 l0.length c0] rfl aM_ ?_; (with_reducible refine (spec_DrawCheckSig.calls k _ _ l0 t1104 t1105 t1106 t1107 t1110 _ ?side1 ?side2 A4.out).mono ?_); (case side1 => exact cR_ HR0.out); (case side2 => exact HC0.out); rintro e w7 ⟨v1108, v1111, rfl, ho0, ho1, hb⟩; refine ⟨_, rfl, ?_⟩; have n0_ := Aside0.mk (Kd.R_lower ho0 (below_size (hB_))); have n1_ := Aside0.mk (Kd.Q_lower ho1 (below_size (hB_))); have n2_ := Aside0.mk (below_step (hB_) hb); have HO1109 := n0_; have HO1112 := n1_; replace HB := n2_; clear n0_ n1_ n2_; (try clear hb); (try clear ho0); (try clear ho1)) | ((with_reducible refine gate_dst (N := 5) rfl ?_); refine box_event ?hg (N := 5) ?hd (cs := #[.int .i64 0, .slice none 0 0, .slice none 0 0]) (t := 42) ?hr ?_; (case hd => rfl); (case hg => rfl); (case hr => first | (go_simp; done) | (go_simp; rfl)); intro gb1113 hg w8 hbox hb; have n0_ := Aside0.mk (Kd.R_below (rR_ HO1109.out) hb); have n1_ := Aside0.mk (Kd.Q_below (rQ_ HO1112.out) hb); have n2_ := Aside0.mk (below_step (hB_) hb); have n3_ := Aside0.mk (hbox); have n4_ := Aside0.mk ((by rw [hg]; exact (below_size (hB_)) : w.heap.size ≤ gb1113)); have n5_ := Aside0.mk ((by rw [hg]; exact (below_size (hB_)) : w.heap.size ≤ gb1113)); replace HO1109 := n0_; replace HO1112 := n1_; replace HB := n2_; have BK1113 := n3_; have GW1113 := n4_; have GE1113 := n5_; clear n0_ n1_ n2_ n3_ n4_ n5_; clear hb hbox hg; have hcz9_0 : w8.cell? ⟨gb1113, 0, none⟩ = some (.int .i64 0) := (blk_cell BK1113.out 0).trans rfl; have hcz9_1 : w8.cell? ⟨gb1113, 1, none⟩ = some (.slice none 0 0) := (blk_cell BK1113.out 1).trans rfl; have hcz9_2 : w8.cell? ⟨gb1113, 2, none⟩ = some (.slice none 0 0) := (blk_cell BK1113.out 2).trans rfl; have hfz9_0 := blk_frozen BK1113.out 0; have hfz9_1 := blk_frozen BK1113.out 1; have hfz9_2 := blk_frozen BK1113.out 2; obtain ⟨Ao10, co10, eo10⟩ := Kd.R_slice HO1109.out; subst eo10; obtain ⟨Ao11, co11, eo11, _⟩ := Kd.Q_slice HO1112.out; subst eo11) | ((with_reducible refine gate_callee (f := 31) rfl ?_); refine goesL_ (some 25) rfl rfl Tryd.func31 (by kernel_rfl) rfl #[.string t1104, .string t1105, .agg #[.int .i64 t1106, .slice Ao10 t1107.length co10, .slice Ao11 t1110.length co11]] rfl aM_ ?_; (with_reducible refine (impl_CheckSig.calls k t1104 t1105 t1106 _ _ t1107 _ _ t1110 t1114 _ ?side1 ?side2 ?side3 ?side4 A5.out (HLD.out.below HLD.out.pos ((u3_ GE1113.out)))).mono ?_); (case side1 => refine (Kd.R_reads' (e := 9) (base := w.heap.size) (ok := fun k_ => some k_ ≠ (.slice Ao11 t1110.length co11 : Value).ownBlock) (n := t1107.length) (c := co10) ?_).2.2; exact (by refine kR_ ?_; exact (Kd.R_mono (Kd.R_far (Kd.R_far (Kd.R_far (Kd.R_types HO1109.out BK1113.out (by decide)) (fun _ hk => hk.2) _) (fun _ hk => hk.2) _) (fun _ hk => hk.2) _) (fun _ h_ => h_.1)))); (case side2 => exact (Kd.R_reads' HO1109.out).2.1); (case side3 => refine (Kd.Q_reads' (e := 9) (base := w.heap.size) (ok := fun k_ => some k_ ≠ (.slice Ao10 t1107.length co10 : Value).ownBlock) (n := t1110.length) (c := co11) ?_).2.2; exact (by refine kQ_ ?_; exact (Kd.Q_mono (Kd.Q_far (p := ⟨gb1113, 2, none⟩) (Kd.Q_far (p := ⟨gb1113, 1, none⟩) (Kd.Q_far (p := ⟨gb1113, 0, none⟩) (Kd.Q_types HO1112.out BK1113.out (by decide)) (fun _ hk => hk.2) _) (fun _ hk => hk.2) _) (fun _ hk => hk.2) _) (fun _ h_ => h_.1)))); (case side4 => exact (Kd.Q_reads' HO1112.out).2.1); rintro e w12 ⟨rfl, hb⟩; refine ⟨_, rfl, ?_⟩; have n0_ := Aside0.mk (Kd.R_below (by refine kR_ ?_; exact (Kd.R_mono (Kd.R_far (Kd.R_far (Kd.R_far (Kd.R_types HO1109.out BK1113.out (by decide)) (fun _ hk => hk.2) _) (fun _ hk => hk.2) _) (fun _ hk => hk.2) _) (fun _ h_ => h_.1))) hb); have n1_ := Aside0.mk (Kd.Q_below (by refine kQ_ ?_; exact (Kd.Q_mono (Kd.Q_far (p := ⟨gb1113, 2, none⟩) (Kd.Q_far (p := ⟨gb1113, 1, none⟩) (Kd.Q_far (p := ⟨gb1113, 0, none⟩) (Kd.Q_types HO1112.out BK1113.out (by decide)) (fun _ hk => hk.2) _) (fun _ hk => hk.2) _) (fun _ hk => hk.2) _) (fun _ h_ => h_.1))) hb); have n2_ := Aside0.mk (blk_below (g := gb1113) (o := .cells #[.int .i64 t1106, .slice Ao10 t1107.length co10, .slice Ao11 t1110.length co11] 42 (0, 0)) (by refine kK_ ?_; refine blk_put (cs := #[.int .i64 t1106, .slice Ao10 t1107.length co10, .slice none 0 0]) ?_ 2 _ rfl; refine kK_ ?_; refine blk_put (cs := #[.int .i64 t1106, .slice none 0 0, .slice none 0 0]) ?_ 1 _ rfl; refine kK_ ?_; refine blk_put (cs := #[.int .i64 0, .slice none 0 0, .slice none 0 0]) ?_ 0 _ rfl; exact rK_ BK1113.out) hb); have n3_ := Aside0.mk (below_step (hS_ GE1113.out) hb); replace HO1109 := n0_; replace HO1112 := n1_; replace BK1113 := n2_; replace HB := n3_; clear n0_ n1_ n2_ n3_; (try clear hb)))
  (try simp only [Act.put, List.setIfInBounds_toArray, List.set_cons_zero, List.set_cons_succ])
  go_cut [46] (fun v46 wc => ∃ (kq : Nat) (x46_5 : Bool), v46 = .bool x46_5 ∧ Aside0 (laws_FnChecks.j0 kq l0 x46_5 = some r) ∧ Aside0 (kq ≤ k) ∧ Aside0 (Kd.R Kd.string 9 wc w.heap.size (fun k_ => some k_ ≠ ((.slice Ao11 t1110.length co11) : Value).ownBlock) (.slice Ao10 t1107.length co10) t1107) ∧ Aside0 (Kd.Q Kd.string 9 wc w.heap.size (fun k_ => some k_ ≠ ((.slice Ao10 t1107.length co10) : Value).ownBlock) (.slice Ao11 t1110.length co11) t1110) ∧ Aside0 (wc.heap[gb1113]? = some (.cells #[.int .i64 t1106, (.slice Ao10 t1107.length co10), (.slice Ao11 t1110.length co11)] 42 (0, 0))) ∧ Aside0 (Below w.heap.size w wc))
  case first =>
   have H := HC6.out
   clear HC6
   replace H := Option.bind_eq_some_iff.mp H
   obtain ⟨t1115, A130, H⟩ := H
   try dsimp -simprocs only at H
   have A13 := Aside0.mk A130
   clear A130
   by_cases c14 : (t1114 != t1115) = true
   ·rw [if_pos c14] at H
    have c14b0 : (t1114 != t1115) = true := c14
    (try (have c14b1 : decide (t1114 = t1115) = false := by simpa using c14))
    (try (have c14b2 : (t1114 == t1115) = false := by simpa using c14))
    (try (have c14b3 : ¬ (t1114 = t1115) := by simpa using c14))
    clear c14
    (first | rw [c14b0] | (simp only [i64_w, i32_w]; rw [c14b0]) | skip)
    have H' := Aside0.mk H
    clear H
    try go_wp2
    have n0_ := Aside0.mk (Kd.R_drew HO1109.out)
    have n1_ := Aside0.mk (Kd.Q_drew HO1112.out)
    have n2_ := Aside0.mk (blk_drew BK1113.out)
    have n3_ := Aside0.mk (below_drew1 HB.out)
    clear HO1109
    clear HO1112
    clear BK1113
    clear HB
    have HO1109 := n0_
    have HO1112 := n1_
    have BK1113 := n2_
    have HB := n3_
    clear n0_ n1_ n2_ n3_
    refine start_ (n := 21) (S := fun w' => w'.cell? ⟨gb1113, 0, none⟩ = some (.int .i64 t1106) ∧ w'.cell? ⟨gb1113, 1, none⟩ = some (.slice Ao10 t1107.length co10) ∧ w'.cell? ⟨gb1113, 2, none⟩ = some (.slice Ao11 t1110.length co11)) (ds := []) (bb_ 21 0) (by kernel_rfl) rfl rfl ⟨(blk_cell BK1113.out 0).trans rfl, (blk_cell BK1113.out 1).trans rfl, (blk_cell BK1113.out 2).trans rfl⟩ (fun hHeld => ?_); refine with_tabW laws_FnChecks.tab5 laws_FnChecks.bits5 (fun HT_ HW_ => ?_)
    generalize w12.drew = w15 at HO1109 HO1112 BK1113 HB hHeld ⊢
    refine pS_ 0 26 (bb_ 21 1) HT_.out ?_
    refine pS_ 1 27 (bb_ 21 3) HT_.out ?_
    refine pS_ 2 28 (bb_ 21 7) HT_.out ?_
    refine tS_ 3 29 (bb_ 21 15) (take_ofW HT_.out HW_.out (by kernel_rfl)) hHeld ?_
    refine one_ (i := 4) (N := some 30) (bb_ 21 31) rfl rfl (one_of HT_.out (by kernel_rfl)) (by decide) (fun K hK => ?_)
    refine goes_ Tryd.func29 (by kernel_rfl) rfl #[.string t1104, .string t1105, .agg #[.int .i64 t1106, .slice Ao10 t1107.length co10, .slice Ao11 t1110.length co11]] (by rfl) rfl rfl aM_ ?_
    with_reducible refine (spec_CheckSig.calls k t1104 t1105 t1106 _ _ t1107 _ _ t1110 t1115 _ ?side1 ?side2 ?side3 ?side4 A13.out).mono ?_
    (case side1 => exact cR_ (Kd.R_reads' HO1109.out).2.2)
    (case side2 => exact (Kd.R_reads' HO1109.out).2.1)
    (case side3 => exact cR_ (Kd.Q_reads' HO1112.out).2.2)
    (case side4 => exact (Kd.Q_reads' HO1112.out).2.1)
    rintro e w16 ⟨rfl, hb⟩
    refine ⟨_, rfl, ?_⟩
    have n0_ := Aside0.mk (Kd.R_below (rR_ HO1109.out) hb)
    have n1_ := Aside0.mk (Kd.Q_below (rQ_ HO1112.out) hb)
    have n2_ := Aside0.mk (blk_below (g := gb1113) (o := .cells #[.int .i64 t1106, .slice Ao10 t1107.length co10, .slice Ao11 t1110.length co11] 42 (0, 0)) (rK_ BK1113.out) hb)
    have n3_ := Aside0.mk (below_step (hS_ GE1113.out) hb)
    clear HO1109
    clear HO1112
    clear BK1113
    clear HB
    have HO1109 := n0_
    have HO1112 := n1_
    have BK1113 := n2_
    have HB := n3_
    clear n0_ n1_ n2_ n3_
    (try clear hb)
    (try clear hb2)
    (try clear hk)
    (try clear hi)
    refine hK.out _ _ ⟨(blk_cell BK1113.out 0).trans rfl, (blk_cell BK1113.out 1).trans rfl, (blk_cell BK1113.out 2).trans rfl⟩ (fun hHeld => ?_)
    clear hK K
    refine norm_ (a' := ?_) ?_ ?_
    rotate_left
    ·show Act.put _ (some 30) _ = _
     simp only [Act.put, List.setIfInBounds_toArray, List.set_cons_zero, List.set_cons_succ, i64_w, i32_w]
     rfl
    refine pS_ 5 31 (bb_ 21 63) HT_.out ?_
    refine pS_ 6 32 (bb_ 21 127) HT_.out ?_
    refine pU_ 7 33 (bb_ 21 255) HT_.out ?_
    refine pU_ 8 34 (bb_ 21 511) HT_.out ?_
    refine pU_ 9 35 (bb_ 21 1023) HT_.out ?_
    refine pU_ 10 36 (bb_ 21 2047) HT_.out ?_
    refine pU_ 11 37 (bb_ 21 4095) HT_.out ?_
    refine pS_ 12 38 (bb_ 21 8191) HT_.out ?_
    refine pS_ 13 39 (bb_ 21 16383) HT_.out ?_
    refine pU_ 14 40 (bb_ 21 32767) HT_.out ?_
    refine pU_ 15 41 (bb_ 21 65535) HT_.out ?_
    refine pU_ 16 42 (bb_ 21 131071) HT_.out ?_
    refine pU_ 17 43 (bb_ 21 262143) HT_.out ?_
    refine pU_ 18 44 (bb_ 21 524287) HT_.out ?_
    refine pU_ 19 45 (bb_ 21 1048575) HT_.out ?_
    refine pS_ 20 46 (bb_ 21 2097151) HT_.out ?_
    refine done_ (done_of HT_.out (by kernel_rfl)) ?_
    try go_wp2
    go_meet
    case rel => exact ⟨_, (true), (by first | rfl | (simp; done) | (simp [*]; done)), H', ⟨by first | omega | exact Nat.le_refl _⟩, ⟨rR_ HO1109.out⟩, ⟨rQ_ HO1112.out⟩, ⟨by refine kK_ ?_; exact BK1113.out⟩, ⟨hS_ GE1113.out⟩⟩
   rw [if_neg c14] at H
   have c14b0 : (t1114 != t1115) = false := by simpa using c14
   (try (have c14b1 : decide (t1114 = t1115) = true := by simpa using c14))
   (try (have c14b2 : (t1114 == t1115) = true := by simpa using c14))
   clear c14
   (first | rw [c14b0] | (simp only [i64_w, i32_w]; rw [c14b0]) | skip)
   replace H := Option.bind_eq_some_iff.mp H
   obtain ⟨t1116, A170, H⟩ := H
   try dsimp -simprocs only at H
   have A17 := Aside0.mk A170
   clear A170
   replace H := Option.bind_eq_some_iff.mp H
   obtain ⟨t1117, A180, H⟩ := H
   try dsimp -simprocs only at H
   have A18 := Aside0.mk A180
   clear A180
   by_cases c19 : (t1116 != t1117) = true
   ·rw [if_pos c19] at H
    have c19b0 : (t1116 != t1117) = true := c19
    (try (have c19b1 : decide (t1116 = t1117) = false := by simpa using c19))
    (try (have c19b2 : (t1116 == t1117) = false := by simpa using c19))
    (try (have c19b3 : ¬ (t1116 = t1117) := by simpa using c19))
    clear c19
    have H' := Aside0.mk H
    clear H
    try go_wp2
    have n0_ := Aside0.mk (Kd.R_drew HO1109.out)
    have n1_ := Aside0.mk (Kd.Q_drew HO1112.out)
    have n2_ := Aside0.mk (blk_drew BK1113.out)
    have n3_ := Aside0.mk (below_drew1 HB.out)
    clear HO1109
    clear HO1112
    clear BK1113
    clear HB
    have HO1109 := n0_
    have HO1112 := n1_
    have BK1113 := n2_
    have HB := n3_
    clear n0_ n1_ n2_ n3_
    refine start_ (n := 21) (S := fun w' => w'.cell? ⟨gb1113, 0, none⟩ = some (.int .i64 t1106) ∧ w'.cell? ⟨gb1113, 1, none⟩ = some (.slice Ao10 t1107.length co10) ∧ w'.cell? ⟨gb1113, 2, none⟩ = some (.slice Ao11 t1110.length co11)) (ds := []) (bb_ 21 0) (by kernel_rfl) rfl rfl ⟨(blk_cell BK1113.out 0).trans rfl, (blk_cell BK1113.out 1).trans rfl, (blk_cell BK1113.out 2).trans rfl⟩ (fun hHeld => ?_); refine with_tabW laws_FnChecks.tab5 laws_FnChecks.bits5 (fun HT_ HW_ => ?_)
    generalize w12.drew = w20 at HO1109 HO1112 BK1113 HB hHeld ⊢
    refine pS_ 0 26 (bb_ 21 1) HT_.out ?_
    refine pS_ 1 27 (bb_ 21 3) HT_.out ?_
    refine pS_ 2 28 (bb_ 21 7) HT_.out ?_
    refine tS_ 3 29 (bb_ 21 15) (take_ofW HT_.out HW_.out (by kernel_rfl)) hHeld ?_
    refine one_ (i := 4) (N := some 30) (bb_ 21 31) rfl rfl (one_of HT_.out (by kernel_rfl)) (by decide) (fun K hK => ?_)
    refine goes_ Tryd.func29 (by kernel_rfl) rfl #[.string t1104, .string t1105, .agg #[.int .i64 t1106, .slice Ao10 t1107.length co10, .slice Ao11 t1110.length co11]] (by rfl) rfl rfl aM_ ?_
    with_reducible refine (spec_CheckSig.calls k t1104 t1105 t1106 _ _ t1107 _ _ t1110 t1115 _ ?side1 ?side2 ?side3 ?side4 A13.out).mono ?_
    (case side1 => exact cR_ (Kd.R_reads' HO1109.out).2.2)
    (case side2 => exact (Kd.R_reads' HO1109.out).2.1)
    (case side3 => exact cR_ (Kd.Q_reads' HO1112.out).2.2)
    (case side4 => exact (Kd.Q_reads' HO1112.out).2.1)
    rintro e w21 ⟨rfl, hb⟩
    refine ⟨_, rfl, ?_⟩
    have n0_ := Aside0.mk (Kd.R_below (rR_ HO1109.out) hb)
    have n1_ := Aside0.mk (Kd.Q_below (rQ_ HO1112.out) hb)
    have n2_ := Aside0.mk (blk_below (g := gb1113) (o := .cells #[.int .i64 t1106, .slice Ao10 t1107.length co10, .slice Ao11 t1110.length co11] 42 (0, 0)) (rK_ BK1113.out) hb)
    have n3_ := Aside0.mk (below_step (hS_ GE1113.out) hb)
    clear HO1109
    clear HO1112
    clear BK1113
    clear HB
    have HO1109 := n0_
    have HO1112 := n1_
    have BK1113 := n2_
    have HB := n3_
    clear n0_ n1_ n2_ n3_
    (try clear hb)
    (try clear hb2)
    (try clear hk)
    (try clear hi)
    refine hK.out _ _ ⟨(blk_cell BK1113.out 0).trans rfl, (blk_cell BK1113.out 1).trans rfl, (blk_cell BK1113.out 2).trans rfl⟩ (fun hHeld => ?_)
    clear hK K
    refine norm_ (a' := ?_) ?_ ?_
    rotate_left
    ·show Act.put _ (some 30) _ = _
     simp only [Act.put, List.setIfInBounds_toArray, List.set_cons_zero, List.set_cons_succ, i64_w, i32_w]
     rfl
    refine pS_ 5 31 (bb_ 21 63) HT_.out ?_
    refine pS_ 6 32 (bb_ 21 127) HT_.out ?_
    refine tS_ 7 33 (bb_ 21 255) (take_ofW HT_.out HW_.out (by kernel_rfl)) hHeld ?_
    refine tS_ 9 35 (bb_ 21 767) (take_ofW HT_.out HW_.out (by kernel_rfl)) hHeld ?_
    refine one_ (i := 8) (N := some 34) (bb_ 21 1023) rfl rfl (one_of HT_.out (by kernel_rfl)) (by decide) (fun K hK => ?_)
    refine goes_ Tryd.func47 (by kernel_rfl) rfl #[.agg #[.int .i64 t1106, .slice Ao10 t1107.length co10, .slice Ao11 t1110.length co11]] (by rfl) rfl rfl aM_ ?_
    with_reducible refine (impl_SigOk.calls k t1106 _ _ t1107 _ _ t1110 t1116 _ ?side1 ?side2 ?side3 ?side4 A17.out).mono ?_
    (case side1 => exact cR_ (Kd.R_reads' HO1109.out).2.2)
    (case side2 => exact (Kd.R_reads' HO1109.out).2.1)
    (case side3 => exact cR_ (Kd.Q_reads' HO1112.out).2.2)
    (case side4 => exact (Kd.Q_reads' HO1112.out).2.1)
    rintro e w22 ⟨rfl, hb⟩
    refine ⟨_, rfl, ?_⟩
    have n0_ := Aside0.mk (Kd.R_below (rR_ HO1109.out) hb)
    have n1_ := Aside0.mk (Kd.Q_below (rQ_ HO1112.out) hb)
    have n2_ := Aside0.mk (blk_below (g := gb1113) (o := .cells #[.int .i64 t1106, .slice Ao10 t1107.length co10, .slice Ao11 t1110.length co11] 42 (0, 0)) (rK_ BK1113.out) hb)
    have n3_ := Aside0.mk (below_step (hS_ GE1113.out) hb)
    clear HO1109
    clear HO1112
    clear BK1113
    clear HB
    have HO1109 := n0_
    have HO1112 := n1_
    have BK1113 := n2_
    have HB := n3_
    clear n0_ n1_ n2_ n3_
    (try clear hb)
    (try clear hb2)
    (try clear hk)
    (try clear hi)
    refine hK.out _ _ ⟨(blk_cell BK1113.out 0).trans rfl, (blk_cell BK1113.out 1).trans rfl, (blk_cell BK1113.out 2).trans rfl⟩ (fun hHeld => ?_)
    clear hK K
    refine norm_ (a' := ?_) ?_ ?_
    rotate_left
    ·show Act.put _ (some 34) _ = _
     simp only [Act.put, List.setIfInBounds_toArray, List.set_cons_zero, List.set_cons_succ, i64_w, i32_w]
     rfl
    refine one_ (i := 10) (N := some 36) (bb_ 21 2047) rfl rfl (one_of HT_.out (by kernel_rfl)) (by decide) (fun K hK => ?_)
    refine goes_ Tryd.func53 (by kernel_rfl) rfl #[.agg #[.int .i64 t1106, .slice Ao10 t1107.length co10, .slice Ao11 t1110.length co11]] (by rfl) rfl rfl aM_ ?_
    with_reducible refine (spec_SigOk.calls k t1106 _ _ t1107 _ _ t1110 t1117 _ ?side1 ?side2 ?side3 ?side4 A18.out).mono ?_
    (case side1 => exact cR_ (Kd.R_reads' HO1109.out).2.2)
    (case side2 => exact (Kd.R_reads' HO1109.out).2.1)
    (case side3 => exact cR_ (Kd.Q_reads' HO1112.out).2.2)
    (case side4 => exact (Kd.Q_reads' HO1112.out).2.1)
    rintro e w23 ⟨rfl, hb⟩
    refine ⟨_, rfl, ?_⟩
    have n0_ := Aside0.mk (Kd.R_below (rR_ HO1109.out) hb)
    have n1_ := Aside0.mk (Kd.Q_below (rQ_ HO1112.out) hb)
    have n2_ := Aside0.mk (blk_below (g := gb1113) (o := .cells #[.int .i64 t1106, .slice Ao10 t1107.length co10, .slice Ao11 t1110.length co11] 42 (0, 0)) (rK_ BK1113.out) hb)
    have n3_ := Aside0.mk (below_step (hS_ GE1113.out) hb)
    clear HO1109
    clear HO1112
    clear BK1113
    clear HB
    have HO1109 := n0_
    have HO1112 := n1_
    have BK1113 := n2_
    have HB := n3_
    clear n0_ n1_ n2_ n3_
    (try clear hb)
    (try clear hb2)
    (try clear hk)
    (try clear hi)
    refine hK.out _ _ ⟨(blk_cell BK1113.out 0).trans rfl, (blk_cell BK1113.out 1).trans rfl, (blk_cell BK1113.out 2).trans rfl⟩ (fun hHeld => ?_)
    clear hK K
    refine norm_ (a' := ?_) ?_ ?_
    rotate_left
    ·show Act.put _ (some 36) _ = _
     simp only [Act.put, List.setIfInBounds_toArray, List.set_cons_zero, List.set_cons_succ, i64_w, i32_w]
     rfl
    refine pS_ 11 37 (bb_ 21 4095) HT_.out ?_
    refine pS_ 12 38 (bb_ 21 8191) HT_.out ?_
    refine pS_ 13 39 (bb_ 21 16383) HT_.out ?_
    refine pU_ 14 40 (bb_ 21 32767) HT_.out ?_
    refine pU_ 15 41 (bb_ 21 65535) HT_.out ?_
    refine pU_ 16 42 (bb_ 21 131071) HT_.out ?_
    refine pU_ 17 43 (bb_ 21 262143) HT_.out ?_
    refine pU_ 18 44 (bb_ 21 524287) HT_.out ?_
    refine pU_ 19 45 (bb_ 21 1048575) HT_.out ?_
    refine pS_ 20 46 (bb_ 21 2097151) HT_.out ?_
    refine done_ (done_of HT_.out (by kernel_rfl)) ?_
    try go_wp2
    go_meet
    case rel => exact ⟨_, (true), (by first | rfl | (simp; done) | (simp [*]; done)), H', ⟨by first | omega | exact Nat.le_refl _⟩, ⟨rR_ HO1109.out⟩, ⟨rQ_ HO1112.out⟩, ⟨by refine kK_ ?_; exact BK1113.out⟩, ⟨hS_ GE1113.out⟩⟩
   rw [if_neg c19] at H
   have c19b0 : (t1116 != t1117) = false := by simpa using c19
   (try (have c19b1 : decide (t1116 = t1117) = true := by simpa using c19))
   (try (have c19b2 : (t1116 == t1117) = true := by simpa using c19))
   clear c19
   by_cases c24 : t1114 = true
   ·subst c24
    have H1 : ((spec_SigOk.f k t1106 t1107 t1110).bind fun t1118 => (laws_FnChecks.j0 k l0 (!t1118))) = some r := by rw [if_pos rfl] at H; exact H
    clear H
    have H := H1
    clear H1
    replace H := Option.bind_eq_some_iff.mp H
    obtain ⟨t1118, A250, H⟩ := H
    try dsimp -simprocs only at H
    have A25 := Aside0.mk A250
    clear A250
    have QA25 := Aside0.mk (Option.some.inj (A18.out.symm.trans A25.out))
    have H' := Aside0.mk H
    clear H
    try go_wp2
    have n0_ := Aside0.mk (Kd.R_drew HO1109.out)
    have n1_ := Aside0.mk (Kd.Q_drew HO1112.out)
    have n2_ := Aside0.mk (blk_drew BK1113.out)
    have n3_ := Aside0.mk (below_drew1 HB.out)
    clear HO1109
    clear HO1112
    clear BK1113
    clear HB
    have HO1109 := n0_
    have HO1112 := n1_
    have BK1113 := n2_
    have HB := n3_
    clear n0_ n1_ n2_ n3_
    refine start_ (n := 21) (S := fun w' => w'.cell? ⟨gb1113, 0, none⟩ = some (.int .i64 t1106) ∧ w'.cell? ⟨gb1113, 1, none⟩ = some (.slice Ao10 t1107.length co10) ∧ w'.cell? ⟨gb1113, 2, none⟩ = some (.slice Ao11 t1110.length co11)) (ds := []) (bb_ 21 0) (by kernel_rfl) rfl rfl ⟨(blk_cell BK1113.out 0).trans rfl, (blk_cell BK1113.out 1).trans rfl, (blk_cell BK1113.out 2).trans rfl⟩ (fun hHeld => ?_); refine with_tabW laws_FnChecks.tab5 laws_FnChecks.bits5 (fun HT_ HW_ => ?_)
    generalize w12.drew = w26 at HO1109 HO1112 BK1113 HB hHeld ⊢
    refine pS_ 0 26 (bb_ 21 1) HT_.out ?_
    refine pS_ 1 27 (bb_ 21 3) HT_.out ?_
    refine pS_ 2 28 (bb_ 21 7) HT_.out ?_
    refine tS_ 3 29 (bb_ 21 15) (take_ofW HT_.out HW_.out (by kernel_rfl)) hHeld ?_
    refine one_ (i := 4) (N := some 30) (bb_ 21 31) rfl rfl (one_of HT_.out (by kernel_rfl)) (by decide) (fun K hK => ?_)
    refine goes_ Tryd.func29 (by kernel_rfl) rfl #[.string t1104, .string t1105, .agg #[.int .i64 t1106, .slice Ao10 t1107.length co10, .slice Ao11 t1110.length co11]] (by rfl) rfl rfl aM_ ?_
    with_reducible refine (spec_CheckSig.calls k t1104 t1105 t1106 _ _ t1107 _ _ t1110 t1115 _ ?side1 ?side2 ?side3 ?side4 A13.out).mono ?_
    (case side1 => exact cR_ (Kd.R_reads' HO1109.out).2.2)
    (case side2 => exact (Kd.R_reads' HO1109.out).2.1)
    (case side3 => exact cR_ (Kd.Q_reads' HO1112.out).2.2)
    (case side4 => exact (Kd.Q_reads' HO1112.out).2.1)
    rintro e w27 ⟨rfl, hb⟩
    refine ⟨_, rfl, ?_⟩
    have n0_ := Aside0.mk (Kd.R_below (rR_ HO1109.out) hb)
    have n1_ := Aside0.mk (Kd.Q_below (rQ_ HO1112.out) hb)
    have n2_ := Aside0.mk (blk_below (g := gb1113) (o := .cells #[.int .i64 t1106, .slice Ao10 t1107.length co10, .slice Ao11 t1110.length co11] 42 (0, 0)) (rK_ BK1113.out) hb)
    have n3_ := Aside0.mk (below_step (hS_ GE1113.out) hb)
    clear HO1109
    clear HO1112
    clear BK1113
    clear HB
    have HO1109 := n0_
    have HO1112 := n1_
    have BK1113 := n2_
    have HB := n3_
    clear n0_ n1_ n2_ n3_
    (try clear hb)
    (try clear hb2)
    (try clear hk)
    (try clear hi)
    refine hK.out _ _ ⟨(blk_cell BK1113.out 0).trans rfl, (blk_cell BK1113.out 1).trans rfl, (blk_cell BK1113.out 2).trans rfl⟩ (fun hHeld => ?_)
    clear hK K
    refine norm_ (a' := ?_) ?_ ?_
    rotate_left
    ·show Act.put _ (some 30) _ = _
     simp only [Act.put, List.setIfInBounds_toArray, List.set_cons_zero, List.set_cons_succ, i64_w, i32_w]
     rfl
    refine pS_ 5 31 (bb_ 21 63) HT_.out ?_
    refine pS_ 6 32 (bb_ 21 127) HT_.out ?_
    refine tS_ 7 33 (bb_ 21 255) (take_ofW HT_.out HW_.out (by kernel_rfl)) hHeld ?_
    refine tS_ 9 35 (bb_ 21 767) (take_ofW HT_.out HW_.out (by kernel_rfl)) hHeld ?_
    refine one_ (i := 8) (N := some 34) (bb_ 21 1023) rfl rfl (one_of HT_.out (by kernel_rfl)) (by decide) (fun K hK => ?_)
    refine goes_ Tryd.func47 (by kernel_rfl) rfl #[.agg #[.int .i64 t1106, .slice Ao10 t1107.length co10, .slice Ao11 t1110.length co11]] (by rfl) rfl rfl aM_ ?_
    with_reducible refine (impl_SigOk.calls k t1106 _ _ t1107 _ _ t1110 t1116 _ ?side1 ?side2 ?side3 ?side4 A17.out).mono ?_
    (case side1 => exact cR_ (Kd.R_reads' HO1109.out).2.2)
    (case side2 => exact (Kd.R_reads' HO1109.out).2.1)
    (case side3 => exact cR_ (Kd.Q_reads' HO1112.out).2.2)
    (case side4 => exact (Kd.Q_reads' HO1112.out).2.1)
    rintro e w28 ⟨rfl, hb⟩
    refine ⟨_, rfl, ?_⟩
    have n0_ := Aside0.mk (Kd.R_below (rR_ HO1109.out) hb)
    have n1_ := Aside0.mk (Kd.Q_below (rQ_ HO1112.out) hb)
    have n2_ := Aside0.mk (blk_below (g := gb1113) (o := .cells #[.int .i64 t1106, .slice Ao10 t1107.length co10, .slice Ao11 t1110.length co11] 42 (0, 0)) (rK_ BK1113.out) hb)
    have n3_ := Aside0.mk (below_step (hS_ GE1113.out) hb)
    clear HO1109
    clear HO1112
    clear BK1113
    clear HB
    have HO1109 := n0_
    have HO1112 := n1_
    have BK1113 := n2_
    have HB := n3_
    clear n0_ n1_ n2_ n3_
    (try clear hb)
    (try clear hb2)
    (try clear hk)
    (try clear hi)
    refine hK.out _ _ ⟨(blk_cell BK1113.out 0).trans rfl, (blk_cell BK1113.out 1).trans rfl, (blk_cell BK1113.out 2).trans rfl⟩ (fun hHeld => ?_)
    clear hK K
    refine norm_ (a' := ?_) ?_ ?_
    rotate_left
    ·show Act.put _ (some 34) _ = _
     simp only [Act.put, List.setIfInBounds_toArray, List.set_cons_zero, List.set_cons_succ, i64_w, i32_w]
     rfl
    refine one_ (i := 10) (N := some 36) (bb_ 21 2047) rfl rfl (one_of HT_.out (by kernel_rfl)) (by decide) (fun K hK => ?_)
    refine goes_ Tryd.func53 (by kernel_rfl) rfl #[.agg #[.int .i64 t1106, .slice Ao10 t1107.length co10, .slice Ao11 t1110.length co11]] (by rfl) rfl rfl aM_ ?_
    with_reducible refine (spec_SigOk.calls k t1106 _ _ t1107 _ _ t1110 t1117 _ ?side1 ?side2 ?side3 ?side4 A18.out).mono ?_
    (case side1 => exact cR_ (Kd.R_reads' HO1109.out).2.2)
    (case side2 => exact (Kd.R_reads' HO1109.out).2.1)
    (case side3 => exact cR_ (Kd.Q_reads' HO1112.out).2.2)
    (case side4 => exact (Kd.Q_reads' HO1112.out).2.1)
    rintro e w29 ⟨rfl, hb⟩
    refine ⟨_, rfl, ?_⟩
    have n0_ := Aside0.mk (Kd.R_below (rR_ HO1109.out) hb)
    have n1_ := Aside0.mk (Kd.Q_below (rQ_ HO1112.out) hb)
    have n2_ := Aside0.mk (blk_below (g := gb1113) (o := .cells #[.int .i64 t1106, .slice Ao10 t1107.length co10, .slice Ao11 t1110.length co11] 42 (0, 0)) (rK_ BK1113.out) hb)
    have n3_ := Aside0.mk (below_step (hS_ GE1113.out) hb)
    clear HO1109
    clear HO1112
    clear BK1113
    clear HB
    have HO1109 := n0_
    have HO1112 := n1_
    have BK1113 := n2_
    have HB := n3_
    clear n0_ n1_ n2_ n3_
    (try clear hb)
    (try clear hb2)
    (try clear hk)
    (try clear hi)
    refine hK.out _ _ ⟨(blk_cell BK1113.out 0).trans rfl, (blk_cell BK1113.out 1).trans rfl, (blk_cell BK1113.out 2).trans rfl⟩ (fun hHeld => ?_)
    clear hK K
    refine norm_ (a' := ?_) ?_ ?_
    rotate_left
    ·show Act.put _ (some 36) _ = _
     simp only [Act.put, List.setIfInBounds_toArray, List.set_cons_zero, List.set_cons_succ, i64_w, i32_w]
     rfl
    refine pS_ 11 37 (bb_ 21 4095) HT_.out ?_
    refine pS_ 12 38 (bb_ 21 8191) HT_.out ?_
    refine pS_ 13 39 (bb_ 21 16383) HT_.out ?_
    refine pS_ 14 40 (bb_ 21 32767) HT_.out ?_
    refine pS_ 15 41 (bb_ 21 65535) HT_.out ?_
    refine tS_ 16 42 (bb_ 21 131071) (take_ofW HT_.out HW_.out (by kernel_rfl)) hHeld ?_
    refine one_ (i := 17) (N := some 43) (bb_ 21 262143) rfl rfl (one_of HT_.out (by kernel_rfl)) (by decide) (fun K hK => ?_)
    refine goes_ Tryd.func53 (by kernel_rfl) rfl #[.agg #[.int .i64 t1106, .slice Ao10 t1107.length co10, .slice Ao11 t1110.length co11]] (by rfl) rfl rfl aM_ ?_
    with_reducible refine (spec_SigOk.calls k t1106 _ _ t1107 _ _ t1110 t1118 _ ?side1 ?side2 ?side3 ?side4 A25.out).mono ?_
    (case side1 => exact cR_ (Kd.R_reads' HO1109.out).2.2)
    (case side2 => exact (Kd.R_reads' HO1109.out).2.1)
    (case side3 => exact cR_ (Kd.Q_reads' HO1112.out).2.2)
    (case side4 => exact (Kd.Q_reads' HO1112.out).2.1)
    rintro e w30 ⟨rfl, hb⟩
    refine ⟨_, rfl, ?_⟩
    have n0_ := Aside0.mk (Kd.R_below (rR_ HO1109.out) hb)
    have n1_ := Aside0.mk (Kd.Q_below (rQ_ HO1112.out) hb)
    have n2_ := Aside0.mk (blk_below (g := gb1113) (o := .cells #[.int .i64 t1106, .slice Ao10 t1107.length co10, .slice Ao11 t1110.length co11] 42 (0, 0)) (rK_ BK1113.out) hb)
    have n3_ := Aside0.mk (below_step (hS_ GE1113.out) hb)
    clear HO1109
    clear HO1112
    clear BK1113
    clear HB
    have HO1109 := n0_
    have HO1112 := n1_
    have BK1113 := n2_
    have HB := n3_
    clear n0_ n1_ n2_ n3_
    (try clear hb)
    (try clear hb2)
    (try clear hk)
    (try clear hi)
    refine hK.out _ _ ⟨(blk_cell BK1113.out 0).trans rfl, (blk_cell BK1113.out 1).trans rfl, (blk_cell BK1113.out 2).trans rfl⟩ (fun hHeld => ?_)
    clear hK K
    refine norm_ (a' := ?_) ?_ ?_
    rotate_left
    ·show Act.put _ (some 43) _ = _
     simp only [Act.put, List.setIfInBounds_toArray, List.set_cons_zero, List.set_cons_succ, i64_w, i32_w]
     rfl
    refine pS_ 18 44 (bb_ 21 524287) HT_.out ?_
    refine pS_ 19 45 (bb_ 21 1048575) HT_.out ?_
    refine pS_ 20 46 (bb_ 21 2097151) HT_.out ?_
    refine done_ (done_of HT_.out (by kernel_rfl)) ?_
    try go_wp2
    go_meet
    case rel => exact ⟨_, (!t1118), (by first | rfl | (simp only [QA25.out]; done) | (simp; done) | (simp [*]; done)), H', ⟨by first | omega | exact Nat.le_refl _⟩, ⟨rR_ HO1109.out⟩, ⟨rQ_ HO1112.out⟩, ⟨by refine kK_ ?_; exact BK1113.out⟩, ⟨hS_ GE1113.out⟩⟩
   ·replace c24 := Bool.eq_false_iff.mpr c24
    subst c24
    have H1 : (laws_FnChecks.j0 k l0 false) = some r := by rw [if_neg (show ¬ (false = true) by decide)] at H; exact H
    clear H
    have H := H1
    clear H1
    have H' := Aside0.mk H
    clear H
    try go_wp2
    have n0_ := Aside0.mk (Kd.R_drew HO1109.out)
    have n1_ := Aside0.mk (Kd.Q_drew HO1112.out)
    have n2_ := Aside0.mk (blk_drew BK1113.out)
    have n3_ := Aside0.mk (below_drew1 HB.out)
    clear HO1109
    clear HO1112
    clear BK1113
    clear HB
    have HO1109 := n0_
    have HO1112 := n1_
    have BK1113 := n2_
    have HB := n3_
    clear n0_ n1_ n2_ n3_
    refine start_ (n := 21) (S := fun w' => w'.cell? ⟨gb1113, 0, none⟩ = some (.int .i64 t1106) ∧ w'.cell? ⟨gb1113, 1, none⟩ = some (.slice Ao10 t1107.length co10) ∧ w'.cell? ⟨gb1113, 2, none⟩ = some (.slice Ao11 t1110.length co11)) (ds := []) (bb_ 21 0) (by kernel_rfl) rfl rfl ⟨(blk_cell BK1113.out 0).trans rfl, (blk_cell BK1113.out 1).trans rfl, (blk_cell BK1113.out 2).trans rfl⟩ (fun hHeld => ?_); refine with_tabW laws_FnChecks.tab5 laws_FnChecks.bits5 (fun HT_ HW_ => ?_)
    generalize w12.drew = w31 at HO1109 HO1112 BK1113 HB hHeld ⊢
    refine pS_ 0 26 (bb_ 21 1) HT_.out ?_
    refine pS_ 1 27 (bb_ 21 3) HT_.out ?_
    refine pS_ 2 28 (bb_ 21 7) HT_.out ?_
    refine tS_ 3 29 (bb_ 21 15) (take_ofW HT_.out HW_.out (by kernel_rfl)) hHeld ?_
    refine one_ (i := 4) (N := some 30) (bb_ 21 31) rfl rfl (one_of HT_.out (by kernel_rfl)) (by decide) (fun K hK => ?_)
    refine goes_ Tryd.func29 (by kernel_rfl) rfl #[.string t1104, .string t1105, .agg #[.int .i64 t1106, .slice Ao10 t1107.length co10, .slice Ao11 t1110.length co11]] (by rfl) rfl rfl aM_ ?_
    with_reducible refine (spec_CheckSig.calls k t1104 t1105 t1106 _ _ t1107 _ _ t1110 t1115 _ ?side1 ?side2 ?side3 ?side4 A13.out).mono ?_
    (case side1 => exact cR_ (Kd.R_reads' HO1109.out).2.2)
    (case side2 => exact (Kd.R_reads' HO1109.out).2.1)
    (case side3 => exact cR_ (Kd.Q_reads' HO1112.out).2.2)
    (case side4 => exact (Kd.Q_reads' HO1112.out).2.1)
    rintro e w32 ⟨rfl, hb⟩
    refine ⟨_, rfl, ?_⟩
    have n0_ := Aside0.mk (Kd.R_below (rR_ HO1109.out) hb)
    have n1_ := Aside0.mk (Kd.Q_below (rQ_ HO1112.out) hb)
    have n2_ := Aside0.mk (blk_below (g := gb1113) (o := .cells #[.int .i64 t1106, .slice Ao10 t1107.length co10, .slice Ao11 t1110.length co11] 42 (0, 0)) (rK_ BK1113.out) hb)
    have n3_ := Aside0.mk (below_step (hS_ GE1113.out) hb)
    clear HO1109
    clear HO1112
    clear BK1113
    clear HB
    have HO1109 := n0_
    have HO1112 := n1_
    have BK1113 := n2_
    have HB := n3_
    clear n0_ n1_ n2_ n3_
    (try clear hb)
    (try clear hb2)
    (try clear hk)
    (try clear hi)
    refine hK.out _ _ ⟨(blk_cell BK1113.out 0).trans rfl, (blk_cell BK1113.out 1).trans rfl, (blk_cell BK1113.out 2).trans rfl⟩ (fun hHeld => ?_)
    clear hK K
    refine norm_ (a' := ?_) ?_ ?_
    rotate_left
    ·show Act.put _ (some 30) _ = _
     simp only [Act.put, List.setIfInBounds_toArray, List.set_cons_zero, List.set_cons_succ, i64_w, i32_w]
     rfl
    refine pS_ 5 31 (bb_ 21 63) HT_.out ?_
    refine pS_ 6 32 (bb_ 21 127) HT_.out ?_
    refine tS_ 7 33 (bb_ 21 255) (take_ofW HT_.out HW_.out (by kernel_rfl)) hHeld ?_
    refine tS_ 9 35 (bb_ 21 767) (take_ofW HT_.out HW_.out (by kernel_rfl)) hHeld ?_
    refine one_ (i := 8) (N := some 34) (bb_ 21 1023) rfl rfl (one_of HT_.out (by kernel_rfl)) (by decide) (fun K hK => ?_)
    refine goes_ Tryd.func47 (by kernel_rfl) rfl #[.agg #[.int .i64 t1106, .slice Ao10 t1107.length co10, .slice Ao11 t1110.length co11]] (by rfl) rfl rfl aM_ ?_
    with_reducible refine (impl_SigOk.calls k t1106 _ _ t1107 _ _ t1110 t1116 _ ?side1 ?side2 ?side3 ?side4 A17.out).mono ?_
    (case side1 => exact cR_ (Kd.R_reads' HO1109.out).2.2)
    (case side2 => exact (Kd.R_reads' HO1109.out).2.1)
    (case side3 => exact cR_ (Kd.Q_reads' HO1112.out).2.2)
    (case side4 => exact (Kd.Q_reads' HO1112.out).2.1)
    rintro e w33 ⟨rfl, hb⟩
    refine ⟨_, rfl, ?_⟩
    have n0_ := Aside0.mk (Kd.R_below (rR_ HO1109.out) hb)
    have n1_ := Aside0.mk (Kd.Q_below (rQ_ HO1112.out) hb)
    have n2_ := Aside0.mk (blk_below (g := gb1113) (o := .cells #[.int .i64 t1106, .slice Ao10 t1107.length co10, .slice Ao11 t1110.length co11] 42 (0, 0)) (rK_ BK1113.out) hb)
    have n3_ := Aside0.mk (below_step (hS_ GE1113.out) hb)
    clear HO1109
    clear HO1112
    clear BK1113
    clear HB
    have HO1109 := n0_
    have HO1112 := n1_
    have BK1113 := n2_
    have HB := n3_
    clear n0_ n1_ n2_ n3_
    (try clear hb)
    (try clear hb2)
    (try clear hk)
    (try clear hi)
    refine hK.out _ _ ⟨(blk_cell BK1113.out 0).trans rfl, (blk_cell BK1113.out 1).trans rfl, (blk_cell BK1113.out 2).trans rfl⟩ (fun hHeld => ?_)
    clear hK K
    refine norm_ (a' := ?_) ?_ ?_
    rotate_left
    ·show Act.put _ (some 34) _ = _
     simp only [Act.put, List.setIfInBounds_toArray, List.set_cons_zero, List.set_cons_succ, i64_w, i32_w]
     rfl
    refine one_ (i := 10) (N := some 36) (bb_ 21 2047) rfl rfl (one_of HT_.out (by kernel_rfl)) (by decide) (fun K hK => ?_)
    refine goes_ Tryd.func53 (by kernel_rfl) rfl #[.agg #[.int .i64 t1106, .slice Ao10 t1107.length co10, .slice Ao11 t1110.length co11]] (by rfl) rfl rfl aM_ ?_
    with_reducible refine (spec_SigOk.calls k t1106 _ _ t1107 _ _ t1110 t1117 _ ?side1 ?side2 ?side3 ?side4 A18.out).mono ?_
    (case side1 => exact cR_ (Kd.R_reads' HO1109.out).2.2)
    (case side2 => exact (Kd.R_reads' HO1109.out).2.1)
    (case side3 => exact cR_ (Kd.Q_reads' HO1112.out).2.2)
    (case side4 => exact (Kd.Q_reads' HO1112.out).2.1)
    rintro e w34 ⟨rfl, hb⟩
    refine ⟨_, rfl, ?_⟩
    have n0_ := Aside0.mk (Kd.R_below (rR_ HO1109.out) hb)
    have n1_ := Aside0.mk (Kd.Q_below (rQ_ HO1112.out) hb)
    have n2_ := Aside0.mk (blk_below (g := gb1113) (o := .cells #[.int .i64 t1106, .slice Ao10 t1107.length co10, .slice Ao11 t1110.length co11] 42 (0, 0)) (rK_ BK1113.out) hb)
    have n3_ := Aside0.mk (below_step (hS_ GE1113.out) hb)
    clear HO1109
    clear HO1112
    clear BK1113
    clear HB
    have HO1109 := n0_
    have HO1112 := n1_
    have BK1113 := n2_
    have HB := n3_
    clear n0_ n1_ n2_ n3_
    (try clear hb)
    (try clear hb2)
    (try clear hk)
    (try clear hi)
    refine hK.out _ _ ⟨(blk_cell BK1113.out 0).trans rfl, (blk_cell BK1113.out 1).trans rfl, (blk_cell BK1113.out 2).trans rfl⟩ (fun hHeld => ?_)
    clear hK K
    refine norm_ (a' := ?_) ?_ ?_
    rotate_left
    ·show Act.put _ (some 36) _ = _
     simp only [Act.put, List.setIfInBounds_toArray, List.set_cons_zero, List.set_cons_succ, i64_w, i32_w]
     rfl
    refine pS_ 11 37 (bb_ 21 4095) HT_.out ?_
    refine pS_ 12 38 (bb_ 21 8191) HT_.out ?_
    refine pS_ 13 39 (bb_ 21 16383) HT_.out ?_
    refine pS_ 14 40 (bb_ 21 32767) HT_.out ?_
    refine pS_ 15 41 (bb_ 21 65535) HT_.out ?_
    refine pU_ 16 42 (bb_ 21 131071) HT_.out ?_
    refine pU_ 17 43 (bb_ 21 262143) HT_.out ?_
    refine pU_ 18 44 (bb_ 21 524287) HT_.out ?_
    refine pS_ 19 45 (bb_ 21 1048575) HT_.out ?_
    refine pS_ 20 46 (bb_ 21 2097151) HT_.out ?_
    refine done_ (done_of HT_.out (by kernel_rfl)) ?_
    try go_wp2
    go_meet
    case rel => exact ⟨_, (false), (by first | rfl | (simp; done) | (simp [*]; done)), H', ⟨by first | omega | exact Nat.le_refl _⟩, ⟨rR_ HO1109.out⟩, ⟨rQ_ HO1112.out⟩, ⟨by refine kK_ ?_; exact BK1113.out⟩, ⟨hS_ GE1113.out⟩⟩
  case rest =>
   clear HC6
   try clear c1
   try clear c2
   try clear p2
   try clear c4
   try clear c5
   try clear c19
   try clear c19b0
   try clear c19b1
   try clear c19b2
   try clear c24
   try clear c29
   obtain ⟨kq, x46_5, rfl, HA, HJ5, HO_1114001, HO_1114002, BK1113, HB⟩ := hcut
   cases kq with
   | zero => exact absurd HA.out (by simp [laws_FnChecks.j0])
   | succ kj5 =>
    have H := HA.out
    clear HA
    simp only [laws_FnChecks.j0] at H
    by_cases c35 : x46_5 = true
    ·subst c35
     have H1 : (none) = some r := by rw [if_pos rfl] at H; exact H
     clear H
     have H := H1
     clear H1
     exact absurd H (by simp)
    ·replace c35 := Bool.eq_false_iff.mpr c35
     subst c35
     have H1 : ((spec_DrawReadSig.f kj5 l0).bind fun t1119 => ((impl_ReadSig.f kj5 t1119).bind fun bt1120 => ((spec_ReadSig.f kj5 t1119).bind fun bt1129 => ((impl_SigText.f kj5 bt1120.1 bt1120.2.1 bt1120.2.2.1).bind fun bt1138 => (if (bt1120.2.2.2 == bt1129.2.2.2) = true then (if bt1120.2.2.2 = true then (some (bt1138.1.toList == t1119.toList)) else (some true)) else (none)))))) = some r := by rw [if_neg (show ¬ (false = true) by decide)] at H; exact H
     clear H
     have H := H1
     clear H1
     replace H := Option.bind_eq_some_iff.mp H
     obtain ⟨t1119, A360, H⟩ := H
     try dsimp -simprocs only at H
     have A36 := Aside0.mk A360
     clear A360
     replace H := Option.bind_eq_some_iff.mp H
     obtain ⟨⟨t1120, t1121, t1124, t1127⟩, A370, H⟩ := H
     try dsimp -simprocs only at H
     have A37 := Aside0.mk A370
     clear A370
     replace H := Option.bind_eq_some_iff.mp H
     obtain ⟨⟨t1129, t1130, t1133, t1136⟩, A380, H⟩ := H
     try dsimp -simprocs only at H
     have A38 := Aside0.mk A380
     clear A380
     replace H := Option.bind_eq_some_iff.mp H
     obtain ⟨⟨t1138, t1139⟩, A390, H⟩ := H
     try dsimp -simprocs only at H
     have A39 := Aside0.mk A390
     clear A390
     obtain ⟨c40, H⟩ := iN_ H
     have c40b0 : (t1127 == t1136) = true := c40
     (try (have c40b1 : decide (t1127 = t1136) = true := by simpa using c40))
     (try (have c40b2 : (t1127 == t1136) = true := by simpa using c40))
     clear c40
     by_cases c41 : t1127 = true
     ·subst c41
      have H1 : (some (t1138.toList == t1119.toList)) = some r := by rw [if_pos rfl] at H; exact H
      clear H
      have H := H1
      clear H1
      obtain rfl := Option.some.inj H
      go_wp2_with (first | ((with_reducible refine gate_callee (f := 54) rfl ?_); refine goesL_ (some 48) rfl rfl Tryd.func54 (by kernel_rfl) rfl #[.slice A0 l0.length c0] rfl aM_ ?_; (with_reducible refine (spec_DrawReadSig.calls kj5 _ _ l0 t1119 _ ?side1 ?side2 A36.out).mono ?_); (case side1 => exact cR_ (Kd.C_below HR0.out HB.out)); (case side2 => exact HC0.out); rintro e w42 ⟨rfl, hb⟩; refine ⟨_, rfl, ?_⟩; have n0_ := Aside0.mk (Kd.R_below (rR_ HO_1114001.out) hb); have n1_ := Aside0.mk (Kd.Q_below (rQ_ HO_1114002.out) hb); have n2_ := Aside0.mk (blk_below (g := gb1113) (o := .cells #[.int .i64 t1106, .slice Ao10 t1107.length co10, .slice Ao11 t1110.length co11] 42 (0, 0)) (rK_ BK1113.out) hb); have n3_ := Aside0.mk (below_step (hS_ GE1113.out) hb); replace HO_1114001 := n0_; replace HO_1114002 := n1_; replace BK1113 := n2_; replace HB := n3_; clear n0_ n1_ n2_ n3_; (try clear hb)) | ((with_reducible refine gate_callee (f := 46) rfl ?_); refine goesL_ (some 51) rfl rfl Tryd.func46 (by kernel_rfl) rfl #[.string t1119] rfl aM_ ?_; (with_reducible refine (impl_ReadSig.calls kj5 t1119 t1120 t1121 t1124 true _ A37.out).mono ?_); rintro e w43 ⟨v1122, v1125, rfl, ho0, ho1, hb⟩; refine ⟨_, rfl, ?_⟩; have n0_ := Aside0.mk (Kd.R_mono (Kd.R_told (Kd.R_told (Kd.R_old (rR_ HO_1114001.out) hb) (Kd.R_base ho0)) (Kd.R_base ho1)) (fun _ h_ => h_.1)); have n1_ := Aside0.mk (Kd.Q_mono (Kd.Q_told (Kd.Q_told (Kd.Q_old (rQ_ HO_1114002.out) hb) (Kd.R_base ho0)) (Kd.R_base ho1)) (fun _ h_ => h_.1)); have n2_ := Aside0.mk (Kd.R_lower (Kd.R_new' (Kd.R_new' ho0 (Kd.R_lt (rR_ HO_1114001.out))) (Kd.Q_lt (rQ_ HO_1114002.out))) (below_size (hS_ GE1113.out))); have n3_ := Aside0.mk (Kd.R_lower (Kd.R_new' (Kd.R_new' ho1 (Kd.R_lt (rR_ HO_1114001.out))) (Kd.Q_lt (rQ_ HO_1114002.out))) (below_size (hS_ GE1113.out))); have n4_ := Aside0.mk (blk_below (g := gb1113) (o := .cells #[.int .i64 t1106, .slice Ao10 t1107.length co10, .slice Ao11 t1110.length co11] 42 (0, 0)) (rK_ BK1113.out) hb); have n5_ := Aside0.mk (below_step (hS_ GE1113.out) hb); replace HO_1114001 := n0_; replace HO_1114002 := n1_; have HO1123 := n2_; have HO1126 := n3_; replace BK1113 := n4_; replace HB := n5_; clear n0_ n1_ n2_ n3_ n4_ n5_; (try clear hb); (try clear ho0); (try clear ho1)) | ((with_reducible refine gate_dst (N := 8) rfl ?_); refine box_event ?hg (N := 8) ?hd (cs := #[.int .i64 0, .slice none 0 0, .slice none 0 0]) (t := 42) ?hr ?_; (case hd => rfl); (case hg => rfl); (case hr => first | (go_simp; done) | (go_simp; rfl)); intro gb1128 hg w44 hbox hb; have n0_ := Aside0.mk (Kd.R_below (rR_ HO_1114001.out) hb); have n1_ := Aside0.mk (Kd.Q_below (rQ_ HO_1114002.out) hb); have n2_ := Aside0.mk (Kd.R_below (rR_ HO1123.out) hb); have n3_ := Aside0.mk (Kd.R_below (rR_ HO1126.out) hb); have n4_ := Aside0.mk (blk_below (g := gb1113) (o := .cells #[.int .i64 t1106, .slice Ao10 t1107.length co10, .slice Ao11 t1110.length co11] 42 (0, 0)) (rK_ BK1113.out) hb); have n5_ := Aside0.mk (below_step (hS_ GE1113.out) hb); have n6_ := Aside0.mk (hbox); have n7_ := Aside0.mk ((by rw [hg]; exact (below_size (hS_ GE1113.out)) : w.heap.size ≤ gb1128)); have n8_ := Aside0.mk ((by rw [hg]; exact (below_size (hS_ GE1113.out)) : w.heap.size ≤ gb1128)); have n9_ := Aside0.mk ((by rw [hg]; exact Nat.ne_of_lt (blk_lt (g := gb1113) (o := .cells #[.int .i64 t1106, .slice Ao10 t1107.length co10, .slice Ao11 t1110.length co11] 42 (0, 0)) (rK_ BK1113.out)) : gb1113 ≠ gb1128)); have n10_ := Aside0.mk ((by rw [hg]; exact Nat.ne_of_gt (blk_lt (g := gb1113) (o := .cells #[.int .i64 t1106, .slice Ao10 t1107.length co10, .slice Ao11 t1110.length co11] 42 (0, 0)) (rK_ BK1113.out)) : gb1128 ≠ gb1113)); replace HO_1114001 := n0_; replace HO_1114002 := n1_; replace HO1123 := n2_; replace HO1126 := n3_; replace BK1113 := n4_; replace HB := n5_; have BK1128 := n6_; have GW1128 := n7_; have GE1128 := n8_; have NB1113_1128 := n9_; have NB1128_1113 := n10_; clear n0_ n1_ n2_ n3_ n4_ n5_ n6_ n7_ n8_ n9_ n10_; clear hb hbox hg; have hnb45 := NB1128_1113.out; have hnc45 := NB1113_1128.out; have hcz46_0 : w44.cell? ⟨gb1128, 0, none⟩ = some (.int .i64 0) := (blk_cell BK1128.out 0).trans rfl; have hcz46_1 : w44.cell? ⟨gb1128, 1, none⟩ = some (.slice none 0 0) := (blk_cell BK1128.out 1).trans rfl; have hcz46_2 : w44.cell? ⟨gb1128, 2, none⟩ = some (.slice none 0 0) := (blk_cell BK1128.out 2).trans rfl; have hfz46_0 := blk_frozen BK1128.out 0; have hfz46_1 := blk_frozen BK1128.out 1; have hfz46_2 := blk_frozen BK1128.out 2; obtain ⟨Ao47, co47, eo47⟩ := Kd.R_slice HO1123.out; subst eo47; obtain ⟨Ao48, co48, eo48⟩ := Kd.R_slice HO1126.out; subst eo48) | ((with_reducible refine gate_callee (f := 55) rfl ?_); refine goesL_ (some 56) rfl rfl Tryd.func55 (by kernel_rfl) rfl #[.string t1119] rfl aM_ ?_; (with_reducible refine (spec_ReadSig.calls kj5 t1119 t1129 t1130 t1133 t1136 _ A38.out).mono ?_); rintro e w49 ⟨v1131, v1134, rfl, ho0, ho1, hb⟩; refine ⟨_, rfl, ?_⟩; have n0_ := Aside0.mk (Kd.R_mono (Kd.R_told (Kd.R_told (Kd.R_old (by refine kR_ ?_; exact (Kd.R_mono (Kd.R_far (Kd.R_far (Kd.R_far (Kd.R_types HO_1114001.out BK1128.out (by decide)) (fun _ hk => hk.2) _) (fun _ hk => hk.2) _) (fun _ hk => hk.2) _) (fun _ h_ => h_.1))) hb) (Kd.R_base ho0)) (Kd.R_base ho1)) (fun _ h_ => h_.1)); have n1_ := Aside0.mk (Kd.Q_mono (Kd.Q_told (Kd.Q_told (Kd.Q_old (by refine kQ_ ?_; exact (Kd.Q_mono (Kd.Q_far (p := ⟨gb1128, 2, none⟩) (Kd.Q_far (p := ⟨gb1128, 1, none⟩) (Kd.Q_far (p := ⟨gb1128, 0, none⟩) (Kd.Q_types HO_1114002.out BK1128.out (by decide)) (fun _ hk => hk.2) _) (fun _ hk => hk.2) _) (fun _ hk => hk.2) _) (fun _ h_ => h_.1))) hb) (Kd.R_base ho0)) (Kd.R_base ho1)) (fun _ h_ => h_.1)); have n2_ := Aside0.mk (Kd.R_mono (Kd.R_told (Kd.R_told (Kd.R_old (by refine kR_ ?_; exact (Kd.R_mono (Kd.R_far (Kd.R_far (Kd.R_far (Kd.R_types HO1123.out BK1128.out (by decide)) (fun _ hk => hk.2) _) (fun _ hk => hk.2) _) (fun _ hk => hk.2) _) (fun _ h_ => h_.1))) hb) (Kd.R_base ho0)) (Kd.R_base ho1)) (fun _ h_ => h_.1)); have n3_ := Aside0.mk (Kd.R_mono (Kd.R_told (Kd.R_told (Kd.R_old (by refine kR_ ?_; exact (Kd.R_mono (Kd.R_far (Kd.R_far (Kd.R_far (Kd.R_types HO1126.out BK1128.out (by decide)) (fun _ hk => hk.2) _) (fun _ hk => hk.2) _) (fun _ hk => hk.2) _) (fun _ h_ => h_.1))) hb) (Kd.R_base ho0)) (Kd.R_base ho1)) (fun _ h_ => h_.1)); have n4_ := Aside0.mk (Kd.R_lower (Kd.R_new' (Kd.R_new' (Kd.R_new' (Kd.R_new' ho0 (Kd.R_lt (by refine kR_ ?_; exact (Kd.R_mono (Kd.R_far (Kd.R_far (Kd.R_far (Kd.R_types HO_1114001.out BK1128.out (by decide)) (fun _ hk => hk.2) _) (fun _ hk => hk.2) _) (fun _ hk => hk.2) _) (fun _ h_ => h_.1))))) (Kd.Q_lt (by refine kQ_ ?_; exact (Kd.Q_mono (Kd.Q_far (p := ⟨gb1128, 2, none⟩) (Kd.Q_far (p := ⟨gb1128, 1, none⟩) (Kd.Q_far (p := ⟨gb1128, 0, none⟩) (Kd.Q_types HO_1114002.out BK1128.out (by decide)) (fun _ hk => hk.2) _) (fun _ hk => hk.2) _) (fun _ hk => hk.2) _) (fun _ h_ => h_.1))))) (Kd.R_lt (by refine kR_ ?_; exact (Kd.R_mono (Kd.R_far (Kd.R_far (Kd.R_far (Kd.R_types HO1123.out BK1128.out (by decide)) (fun _ hk => hk.2) _) (fun _ hk => hk.2) _) (fun _ hk => hk.2) _) (fun _ h_ => h_.1))))) (Kd.R_lt (by refine kR_ ?_; exact (Kd.R_mono (Kd.R_far (Kd.R_far (Kd.R_far (Kd.R_types HO1126.out BK1128.out (by decide)) (fun _ hk => hk.2) _) (fun _ hk => hk.2) _) (fun _ hk => hk.2) _) (fun _ h_ => h_.1))))) (below_size ((u0_ GE1113.out GE1128.out)))); have n5_ := Aside0.mk (Kd.R_lower (Kd.R_new' (Kd.R_new' (Kd.R_new' (Kd.R_new' ho1 (Kd.R_lt (by refine kR_ ?_; exact (Kd.R_mono (Kd.R_far (Kd.R_far (Kd.R_far (Kd.R_types HO_1114001.out BK1128.out (by decide)) (fun _ hk => hk.2) _) (fun _ hk => hk.2) _) (fun _ hk => hk.2) _) (fun _ h_ => h_.1))))) (Kd.Q_lt (by refine kQ_ ?_; exact (Kd.Q_mono (Kd.Q_far (p := ⟨gb1128, 2, none⟩) (Kd.Q_far (p := ⟨gb1128, 1, none⟩) (Kd.Q_far (p := ⟨gb1128, 0, none⟩) (Kd.Q_types HO_1114002.out BK1128.out (by decide)) (fun _ hk => hk.2) _) (fun _ hk => hk.2) _) (fun _ hk => hk.2) _) (fun _ h_ => h_.1))))) (Kd.R_lt (by refine kR_ ?_; exact (Kd.R_mono (Kd.R_far (Kd.R_far (Kd.R_far (Kd.R_types HO1123.out BK1128.out (by decide)) (fun _ hk => hk.2) _) (fun _ hk => hk.2) _) (fun _ hk => hk.2) _) (fun _ h_ => h_.1))))) (Kd.R_lt (by refine kR_ ?_; exact (Kd.R_mono (Kd.R_far (Kd.R_far (Kd.R_far (Kd.R_types HO1126.out BK1128.out (by decide)) (fun _ hk => hk.2) _) (fun _ hk => hk.2) _) (fun _ hk => hk.2) _) (fun _ h_ => h_.1))))) (below_size ((u0_ GE1113.out GE1128.out)))); have n6_ := Aside0.mk (blk_below (g := gb1113) (o := .cells #[.int .i64 t1106, .slice Ao10 t1107.length co10, .slice Ao11 t1110.length co11] 42 (0, 0)) (by refine kK_ ?_; refine blk_far ?_ NB1113_1128.out _; refine kK_ ?_; refine blk_far ?_ NB1113_1128.out _; refine kK_ ?_; refine blk_far ?_ NB1113_1128.out _; exact rK_ BK1113.out) hb); have n7_ := Aside0.mk (blk_below (g := gb1128) (o := .cells #[.int .i64 t1120, .slice Ao47 t1121.length co47, .slice Ao48 t1124.length co48] 42 (0, 0)) (by refine kK_ ?_; refine blk_put (cs := #[.int .i64 t1120, .slice Ao47 t1121.length co47, .slice none 0 0]) ?_ 2 _ rfl; refine kK_ ?_; refine blk_put (cs := #[.int .i64 t1120, .slice none 0 0, .slice none 0 0]) ?_ 1 _ rfl; refine kK_ ?_; refine blk_put (cs := #[.int .i64 0, .slice none 0 0, .slice none 0 0]) ?_ 0 _ rfl; exact rK_ BK1128.out) hb); have n8_ := Aside0.mk (below_step ((u0_ GE1113.out GE1128.out)) hb); replace HO_1114001 := n0_; replace HO_1114002 := n1_; replace HO1123 := n2_; replace HO1126 := n3_; have HO1132 := n4_; have HO1135 := n5_; replace BK1113 := n6_; replace BK1128 := n7_; replace HB := n8_; clear n0_ n1_ n2_ n3_ n4_ n5_ n6_ n7_ n8_; (try clear hb); (try clear ho0); (try clear ho1)) | ((with_reducible refine gate_dst (N := 10) rfl ?_); refine box_event ?hg (N := 10) ?hd (cs := #[.int .i64 0, .slice none 0 0, .slice none 0 0]) (t := 42) ?hr ?_; (case hd => rfl); (case hg => rfl); (case hr => first | (go_simp; done) | (go_simp; rfl)); intro gb1137 hg w50 hbox hb; have n0_ := Aside0.mk (Kd.R_below (rR_ HO_1114001.out) hb); have n1_ := Aside0.mk (Kd.Q_below (rQ_ HO_1114002.out) hb); have n2_ := Aside0.mk (Kd.R_below (rR_ HO1123.out) hb); have n3_ := Aside0.mk (Kd.R_below (rR_ HO1126.out) hb); have n4_ := Aside0.mk (Kd.R_below (rR_ HO1132.out) hb); have n5_ := Aside0.mk (Kd.R_below (rR_ HO1135.out) hb); have n6_ := Aside0.mk (blk_below (g := gb1113) (o := .cells #[.int .i64 t1106, .slice Ao10 t1107.length co10, .slice Ao11 t1110.length co11] 42 (0, 0)) (rK_ BK1113.out) hb); have n7_ := Aside0.mk (blk_below (g := gb1128) (o := .cells #[.int .i64 t1120, .slice Ao47 t1121.length co47, .slice Ao48 t1124.length co48] 42 (0, 0)) (rK_ BK1128.out) hb); have n8_ := Aside0.mk (below_step ((u0_ GE1113.out GE1128.out)) hb); have n9_ := Aside0.mk (hbox); have n10_ := Aside0.mk ((by rw [hg]; exact (below_size ((u0_ GE1113.out GE1128.out))) : w.heap.size ≤ gb1137)); have n11_ := Aside0.mk ((by rw [hg]; exact (below_size ((u0_ GE1113.out GE1128.out))) : w.heap.size ≤ gb1137)); have n12_ := Aside0.mk ((by rw [hg]; exact Nat.ne_of_lt (blk_lt (g := gb1113) (o := .cells #[.int .i64 t1106, .slice Ao10 t1107.length co10, .slice Ao11 t1110.length co11] 42 (0, 0)) (rK_ BK1113.out)) : gb1113 ≠ gb1137)); have n13_ := Aside0.mk ((by rw [hg]; exact Nat.ne_of_gt (blk_lt (g := gb1113) (o := .cells #[.int .i64 t1106, .slice Ao10 t1107.length co10, .slice Ao11 t1110.length co11] 42 (0, 0)) (rK_ BK1113.out)) : gb1137 ≠ gb1113)); have n14_ := Aside0.mk ((by rw [hg]; exact Nat.ne_of_lt (blk_lt (g := gb1128) (o := .cells #[.int .i64 t1120, .slice Ao47 t1121.length co47, .slice Ao48 t1124.length co48] 42 (0, 0)) (rK_ BK1128.out)) : gb1128 ≠ gb1137)); have n15_ := Aside0.mk ((by rw [hg]; exact Nat.ne_of_gt (blk_lt (g := gb1128) (o := .cells #[.int .i64 t1120, .slice Ao47 t1121.length co47, .slice Ao48 t1124.length co48] 42 (0, 0)) (rK_ BK1128.out)) : gb1137 ≠ gb1128)); replace HO_1114001 := n0_; replace HO_1114002 := n1_; replace HO1123 := n2_; replace HO1126 := n3_; replace HO1132 := n4_; replace HO1135 := n5_; replace BK1113 := n6_; replace BK1128 := n7_; replace HB := n8_; have BK1137 := n9_; have GW1137 := n10_; have GE1137 := n11_; have NB1113_1137 := n12_; have NB1137_1113 := n13_; have NB1128_1137 := n14_; have NB1137_1128 := n15_; clear n0_ n1_ n2_ n3_ n4_ n5_ n6_ n7_ n8_ n9_ n10_ n11_ n12_ n13_ n14_ n15_; clear hb hbox hg; have hnb51 := NB1137_1113.out; have hnc51 := NB1113_1137.out; have hnb52 := NB1137_1128.out; have hnc52 := NB1128_1137.out; have hcz53_0 : w50.cell? ⟨gb1137, 0, none⟩ = some (.int .i64 0) := (blk_cell BK1137.out 0).trans rfl; have hcz53_1 : w50.cell? ⟨gb1137, 1, none⟩ = some (.slice none 0 0) := (blk_cell BK1137.out 1).trans rfl; have hcz53_2 : w50.cell? ⟨gb1137, 2, none⟩ = some (.slice none 0 0) := (blk_cell BK1137.out 2).trans rfl; have hfz53_0 := blk_frozen BK1137.out 0; have hfz53_1 := blk_frozen BK1137.out 1; have hfz53_2 := blk_frozen BK1137.out 2; obtain ⟨Ao54, co54, eo54⟩ := Kd.R_slice HO1132.out; subst eo54; obtain ⟨Ao55, co55, eo55⟩ := Kd.R_slice HO1135.out; subst eo55; have hcz56_0 : w50.cell? ⟨gb1128, 0, none⟩ = some (.int .i64 t1120) := (blk_cell BK1128.out 0).trans rfl; have hcz56_1 : w50.cell? ⟨gb1128, 1, none⟩ = some (.slice Ao47 t1121.length co47) := (blk_cell BK1128.out 1).trans rfl; have hcz56_2 : w50.cell? ⟨gb1128, 2, none⟩ = some (.slice Ao48 t1124.length co48) := (blk_cell BK1128.out 2).trans rfl; have hfz56_0 := blk_frozen BK1128.out 0; have hfz56_1 := blk_frozen BK1128.out 1; have hfz56_2 := blk_frozen BK1128.out 2) | ((with_reducible refine gate_callee (f := 45) rfl ?_); refine goesL_ (some 61) rfl rfl Tryd.func45 (by kernel_rfl) rfl #[.agg #[.int .i64 t1120, .slice Ao47 t1121.length co47, .slice Ao48 t1124.length co48]] rfl aM_ ?_; (with_reducible refine (impl_SigText.calls kj5 t1120 _ _ t1121 _ _ t1124 t1138 t1139 _ ?side1 ?side2 ?side3 ?side4 A39.out).mono ?_); (case side1 => refine (Kd.R_reads' (e := 9) (base := w.heap.size) (ok := fun k_ => ((((some k_ ≠ (.slice Ao48 t1124.length co48 : Value).ownBlock ∧ some k_ ≠ (.slice Ao10 t1107.length co10 : Value).ownBlock) ∧ some k_ ≠ (.slice Ao11 t1110.length co11 : Value).ownBlock) ∧ some k_ ≠ (.slice Ao54 t1130.length co54 : Value).ownBlock) ∧ some k_ ≠ (.slice Ao55 t1133.length co55 : Value).ownBlock)) (n := t1121.length) (c := co47) ?_).2.2; exact (by refine kR_ ?_; exact (Kd.R_mono (Kd.R_far (Kd.R_far (Kd.R_far (Kd.R_types HO1123.out BK1137.out (by decide)) (fun _ hk => hk.2) _) (fun _ hk => hk.2) _) (fun _ hk => hk.2) _) (fun _ h_ => h_.1)))); (case side2 => exact (Kd.R_reads' HO1123.out).2.1); (case side3 => refine (Kd.R_reads' (e := 9) (base := w.heap.size) (ok := fun k_ => ((((some k_ ≠ (.slice Ao47 t1121.length co47 : Value).ownBlock ∧ some k_ ≠ (.slice Ao10 t1107.length co10 : Value).ownBlock) ∧ some k_ ≠ (.slice Ao11 t1110.length co11 : Value).ownBlock) ∧ some k_ ≠ (.slice Ao54 t1130.length co54 : Value).ownBlock) ∧ some k_ ≠ (.slice Ao55 t1133.length co55 : Value).ownBlock)) (n := t1124.length) (c := co48) ?_).2.2; exact (by refine kR_ ?_; exact (Kd.R_mono (Kd.R_far (Kd.R_far (Kd.R_far (Kd.R_types HO1126.out BK1137.out (by decide)) (fun _ hk => hk.2) _) (fun _ hk => hk.2) _) (fun _ hk => hk.2) _) (fun _ h_ => h_.1)))); (case side4 => exact (Kd.R_reads' HO1126.out).2.1); rintro e w57 ⟨rfl, hb⟩; refine ⟨_, rfl, ?_⟩; have n0_ := Aside0.mk (Kd.R_below (by refine kR_ ?_; exact (Kd.R_mono (Kd.R_far (Kd.R_far (Kd.R_far (Kd.R_types HO_1114001.out BK1137.out (by decide)) (fun _ hk => hk.2) _) (fun _ hk => hk.2) _) (fun _ hk => hk.2) _) (fun _ h_ => h_.1))) hb); have n1_ := Aside0.mk (Kd.Q_below (by refine kQ_ ?_; exact (Kd.Q_mono (Kd.Q_far (p := ⟨gb1137, 2, none⟩) (Kd.Q_far (p := ⟨gb1137, 1, none⟩) (Kd.Q_far (p := ⟨gb1137, 0, none⟩) (Kd.Q_types HO_1114002.out BK1137.out (by decide)) (fun _ hk => hk.2) _) (fun _ hk => hk.2) _) (fun _ hk => hk.2) _) (fun _ h_ => h_.1))) hb); have n2_ := Aside0.mk (Kd.R_below (by refine kR_ ?_; exact (Kd.R_mono (Kd.R_far (Kd.R_far (Kd.R_far (Kd.R_types HO1123.out BK1137.out (by decide)) (fun _ hk => hk.2) _) (fun _ hk => hk.2) _) (fun _ hk => hk.2) _) (fun _ h_ => h_.1))) hb); have n3_ := Aside0.mk (Kd.R_below (by refine kR_ ?_; exact (Kd.R_mono (Kd.R_far (Kd.R_far (Kd.R_far (Kd.R_types HO1126.out BK1137.out (by decide)) (fun _ hk => hk.2) _) (fun _ hk => hk.2) _) (fun _ hk => hk.2) _) (fun _ h_ => h_.1))) hb); have n4_ := Aside0.mk (Kd.R_below (by refine kR_ ?_; exact (Kd.R_mono (Kd.R_far (Kd.R_far (Kd.R_far (Kd.R_types HO1132.out BK1137.out (by decide)) (fun _ hk => hk.2) _) (fun _ hk => hk.2) _) (fun _ hk => hk.2) _) (fun _ h_ => h_.1))) hb); have n5_ := Aside0.mk (Kd.R_below (by refine kR_ ?_; exact (Kd.R_mono (Kd.R_far (Kd.R_far (Kd.R_far (Kd.R_types HO1135.out BK1137.out (by decide)) (fun _ hk => hk.2) _) (fun _ hk => hk.2) _) (fun _ hk => hk.2) _) (fun _ h_ => h_.1))) hb); have n6_ := Aside0.mk (blk_below (g := gb1113) (o := .cells #[.int .i64 t1106, .slice Ao10 t1107.length co10, .slice Ao11 t1110.length co11] 42 (0, 0)) (by refine kK_ ?_; refine blk_far ?_ NB1113_1137.out _; refine kK_ ?_; refine blk_far ?_ NB1113_1137.out _; refine kK_ ?_; refine blk_far ?_ NB1113_1137.out _; exact rK_ BK1113.out) hb); have n7_ := Aside0.mk (blk_below (g := gb1128) (o := .cells #[.int .i64 t1120, .slice Ao47 t1121.length co47, .slice Ao48 t1124.length co48] 42 (0, 0)) (by refine kK_ ?_; refine blk_far ?_ NB1128_1137.out _; refine kK_ ?_; refine blk_far ?_ NB1128_1137.out _; refine kK_ ?_; refine blk_far ?_ NB1128_1137.out _; exact rK_ BK1128.out) hb); have n8_ := Aside0.mk (blk_below (g := gb1137) (o := .cells #[.int .i64 t1129, .slice Ao54 t1130.length co54, .slice Ao55 t1133.length co55] 42 (0, 0)) (by refine kK_ ?_; refine blk_put (cs := #[.int .i64 t1129, .slice Ao54 t1130.length co54, .slice none 0 0]) ?_ 2 _ rfl; refine kK_ ?_; refine blk_put (cs := #[.int .i64 t1129, .slice none 0 0, .slice none 0 0]) ?_ 1 _ rfl; refine kK_ ?_; refine blk_put (cs := #[.int .i64 0, .slice none 0 0, .slice none 0 0]) ?_ 0 _ rfl; exact rK_ BK1137.out) hb); have n9_ := Aside0.mk (below_step ((u7_ GE1113.out GE1128.out GE1137.out)) hb); replace HO_1114001 := n0_; replace HO_1114002 := n1_; replace HO1123 := n2_; replace HO1126 := n3_; replace HO1132 := n4_; replace HO1135 := n5_; replace BK1113 := n6_; replace BK1128 := n7_; replace BK1137 := n8_; replace HB := n9_; clear n0_ n1_ n2_ n3_ n4_ n5_ n6_ n7_ n8_ n9_; (try clear hb)))
      go_ret
      exact ⟨by first | rfl | (simp [errW_none, errW_some] <;> rfl) | (simp [*, errW_none, errW_some] <;> rfl), (u7_ GE1113.out GE1128.out GE1137.out)⟩
     ·replace c41 := Bool.eq_false_iff.mpr c41
      subst c41
      have H1 : (some true) = some r := by rw [if_neg (show ¬ (false = true) by decide)] at H; exact H
      clear H
      have H := H1
      clear H1
      obtain rfl := Option.some.inj H
      go_wp2_with (first | ((with_reducible refine gate_callee (f := 54) rfl ?_); refine goesL_ (some 48) rfl rfl Tryd.func54 (by kernel_rfl) rfl #[.slice A0 l0.length c0] rfl aM_ ?_; (with_reducible refine (spec_DrawReadSig.calls kj5 _ _ l0 t1119 _ ?side1 ?side2 A36.out).mono ?_); (case side1 => exact cR_ (Kd.C_below HR0.out HB.out)); (case side2 => exact HC0.out); rintro e w58 ⟨rfl, hb⟩; refine ⟨_, rfl, ?_⟩; have n0_ := Aside0.mk (Kd.R_below (rR_ HO_1114001.out) hb); have n1_ := Aside0.mk (Kd.Q_below (rQ_ HO_1114002.out) hb); have n2_ := Aside0.mk (blk_below (g := gb1113) (o := .cells #[.int .i64 t1106, .slice Ao10 t1107.length co10, .slice Ao11 t1110.length co11] 42 (0, 0)) (rK_ BK1113.out) hb); have n3_ := Aside0.mk (below_step (hS_ GE1113.out) hb); replace HO_1114001 := n0_; replace HO_1114002 := n1_; replace BK1113 := n2_; replace HB := n3_; clear n0_ n1_ n2_ n3_; (try clear hb)) | ((with_reducible refine gate_callee (f := 46) rfl ?_); refine goesL_ (some 51) rfl rfl Tryd.func46 (by kernel_rfl) rfl #[.string t1119] rfl aM_ ?_; (with_reducible refine (impl_ReadSig.calls kj5 t1119 t1120 t1121 t1124 false _ A37.out).mono ?_); rintro e w59 ⟨v1122, v1125, rfl, ho0, ho1, hb⟩; refine ⟨_, rfl, ?_⟩; have n0_ := Aside0.mk (Kd.R_mono (Kd.R_told (Kd.R_told (Kd.R_old (rR_ HO_1114001.out) hb) (Kd.R_base ho0)) (Kd.R_base ho1)) (fun _ h_ => h_.1)); have n1_ := Aside0.mk (Kd.Q_mono (Kd.Q_told (Kd.Q_told (Kd.Q_old (rQ_ HO_1114002.out) hb) (Kd.R_base ho0)) (Kd.R_base ho1)) (fun _ h_ => h_.1)); have n2_ := Aside0.mk (Kd.R_lower (Kd.R_new' (Kd.R_new' ho0 (Kd.R_lt (rR_ HO_1114001.out))) (Kd.Q_lt (rQ_ HO_1114002.out))) (below_size (hS_ GE1113.out))); have n3_ := Aside0.mk (Kd.R_lower (Kd.R_new' (Kd.R_new' ho1 (Kd.R_lt (rR_ HO_1114001.out))) (Kd.Q_lt (rQ_ HO_1114002.out))) (below_size (hS_ GE1113.out))); have n4_ := Aside0.mk (blk_below (g := gb1113) (o := .cells #[.int .i64 t1106, .slice Ao10 t1107.length co10, .slice Ao11 t1110.length co11] 42 (0, 0)) (rK_ BK1113.out) hb); have n5_ := Aside0.mk (below_step (hS_ GE1113.out) hb); replace HO_1114001 := n0_; replace HO_1114002 := n1_; have HO1123 := n2_; have HO1126 := n3_; replace BK1113 := n4_; replace HB := n5_; clear n0_ n1_ n2_ n3_ n4_ n5_; (try clear hb); (try clear ho0); (try clear ho1)) | ((with_reducible refine gate_dst (N := 8) rfl ?_); refine box_event ?hg (N := 8) ?hd (cs := #[.int .i64 0, .slice none 0 0, .slice none 0 0]) (t := 42) ?hr ?_; (case hd => rfl); (case hg => rfl); (case hr => first | (go_simp; done) | (go_simp; rfl)); intro gb1128 hg w60 hbox hb; have n0_ := Aside0.mk (Kd.R_below (rR_ HO_1114001.out) hb); have n1_ := Aside0.mk (Kd.Q_below (rQ_ HO_1114002.out) hb); have n2_ := Aside0.mk (Kd.R_below (rR_ HO1123.out) hb); have n3_ := Aside0.mk (Kd.R_below (rR_ HO1126.out) hb); have n4_ := Aside0.mk (blk_below (g := gb1113) (o := .cells #[.int .i64 t1106, .slice Ao10 t1107.length co10, .slice Ao11 t1110.length co11] 42 (0, 0)) (rK_ BK1113.out) hb); have n5_ := Aside0.mk (below_step (hS_ GE1113.out) hb); have n6_ := Aside0.mk (hbox); have n7_ := Aside0.mk ((by rw [hg]; exact (below_size (hS_ GE1113.out)) : w.heap.size ≤ gb1128)); have n8_ := Aside0.mk ((by rw [hg]; exact (below_size (hS_ GE1113.out)) : w.heap.size ≤ gb1128)); have n9_ := Aside0.mk ((by rw [hg]; exact Nat.ne_of_lt (blk_lt (g := gb1113) (o := .cells #[.int .i64 t1106, .slice Ao10 t1107.length co10, .slice Ao11 t1110.length co11] 42 (0, 0)) (rK_ BK1113.out)) : gb1113 ≠ gb1128)); have n10_ := Aside0.mk ((by rw [hg]; exact Nat.ne_of_gt (blk_lt (g := gb1113) (o := .cells #[.int .i64 t1106, .slice Ao10 t1107.length co10, .slice Ao11 t1110.length co11] 42 (0, 0)) (rK_ BK1113.out)) : gb1128 ≠ gb1113)); replace HO_1114001 := n0_; replace HO_1114002 := n1_; replace HO1123 := n2_; replace HO1126 := n3_; replace BK1113 := n4_; replace HB := n5_; have BK1128 := n6_; have GW1128 := n7_; have GE1128 := n8_; have NB1113_1128 := n9_; have NB1128_1113 := n10_; clear n0_ n1_ n2_ n3_ n4_ n5_ n6_ n7_ n8_ n9_ n10_; clear hb hbox hg; have hnb61 := NB1128_1113.out; have hnc61 := NB1113_1128.out; have hcz62_0 : w60.cell? ⟨gb1128, 0, none⟩ = some (.int .i64 0) := (blk_cell BK1128.out 0).trans rfl; have hcz62_1 : w60.cell? ⟨gb1128, 1, none⟩ = some (.slice none 0 0) := (blk_cell BK1128.out 1).trans rfl; have hcz62_2 : w60.cell? ⟨gb1128, 2, none⟩ = some (.slice none 0 0) := (blk_cell BK1128.out 2).trans rfl; have hfz62_0 := blk_frozen BK1128.out 0; have hfz62_1 := blk_frozen BK1128.out 1; have hfz62_2 := blk_frozen BK1128.out 2; obtain ⟨Ao63, co63, eo63⟩ := Kd.R_slice HO1123.out; subst eo63; obtain ⟨Ao64, co64, eo64⟩ := Kd.R_slice HO1126.out; subst eo64) | ((with_reducible refine gate_callee (f := 55) rfl ?_); refine goesL_ (some 56) rfl rfl Tryd.func55 (by kernel_rfl) rfl #[.string t1119] rfl aM_ ?_; (with_reducible refine (spec_ReadSig.calls kj5 t1119 t1129 t1130 t1133 t1136 _ A38.out).mono ?_); rintro e w65 ⟨v1131, v1134, rfl, ho0, ho1, hb⟩; refine ⟨_, rfl, ?_⟩; have n0_ := Aside0.mk (Kd.R_mono (Kd.R_told (Kd.R_told (Kd.R_old (by refine kR_ ?_; exact (Kd.R_mono (Kd.R_far (Kd.R_far (Kd.R_far (Kd.R_types HO_1114001.out BK1128.out (by decide)) (fun _ hk => hk.2) _) (fun _ hk => hk.2) _) (fun _ hk => hk.2) _) (fun _ h_ => h_.1))) hb) (Kd.R_base ho0)) (Kd.R_base ho1)) (fun _ h_ => h_.1)); have n1_ := Aside0.mk (Kd.Q_mono (Kd.Q_told (Kd.Q_told (Kd.Q_old (by refine kQ_ ?_; exact (Kd.Q_mono (Kd.Q_far (p := ⟨gb1128, 2, none⟩) (Kd.Q_far (p := ⟨gb1128, 1, none⟩) (Kd.Q_far (p := ⟨gb1128, 0, none⟩) (Kd.Q_types HO_1114002.out BK1128.out (by decide)) (fun _ hk => hk.2) _) (fun _ hk => hk.2) _) (fun _ hk => hk.2) _) (fun _ h_ => h_.1))) hb) (Kd.R_base ho0)) (Kd.R_base ho1)) (fun _ h_ => h_.1)); have n2_ := Aside0.mk (Kd.R_mono (Kd.R_told (Kd.R_told (Kd.R_old (by refine kR_ ?_; exact (Kd.R_mono (Kd.R_far (Kd.R_far (Kd.R_far (Kd.R_types HO1123.out BK1128.out (by decide)) (fun _ hk => hk.2) _) (fun _ hk => hk.2) _) (fun _ hk => hk.2) _) (fun _ h_ => h_.1))) hb) (Kd.R_base ho0)) (Kd.R_base ho1)) (fun _ h_ => h_.1)); have n3_ := Aside0.mk (Kd.R_mono (Kd.R_told (Kd.R_told (Kd.R_old (by refine kR_ ?_; exact (Kd.R_mono (Kd.R_far (Kd.R_far (Kd.R_far (Kd.R_types HO1126.out BK1128.out (by decide)) (fun _ hk => hk.2) _) (fun _ hk => hk.2) _) (fun _ hk => hk.2) _) (fun _ h_ => h_.1))) hb) (Kd.R_base ho0)) (Kd.R_base ho1)) (fun _ h_ => h_.1)); have n4_ := Aside0.mk (Kd.R_lower (Kd.R_new' (Kd.R_new' (Kd.R_new' (Kd.R_new' ho0 (Kd.R_lt (by refine kR_ ?_; exact (Kd.R_mono (Kd.R_far (Kd.R_far (Kd.R_far (Kd.R_types HO_1114001.out BK1128.out (by decide)) (fun _ hk => hk.2) _) (fun _ hk => hk.2) _) (fun _ hk => hk.2) _) (fun _ h_ => h_.1))))) (Kd.Q_lt (by refine kQ_ ?_; exact (Kd.Q_mono (Kd.Q_far (p := ⟨gb1128, 2, none⟩) (Kd.Q_far (p := ⟨gb1128, 1, none⟩) (Kd.Q_far (p := ⟨gb1128, 0, none⟩) (Kd.Q_types HO_1114002.out BK1128.out (by decide)) (fun _ hk => hk.2) _) (fun _ hk => hk.2) _) (fun _ hk => hk.2) _) (fun _ h_ => h_.1))))) (Kd.R_lt (by refine kR_ ?_; exact (Kd.R_mono (Kd.R_far (Kd.R_far (Kd.R_far (Kd.R_types HO1123.out BK1128.out (by decide)) (fun _ hk => hk.2) _) (fun _ hk => hk.2) _) (fun _ hk => hk.2) _) (fun _ h_ => h_.1))))) (Kd.R_lt (by refine kR_ ?_; exact (Kd.R_mono (Kd.R_far (Kd.R_far (Kd.R_far (Kd.R_types HO1126.out BK1128.out (by decide)) (fun _ hk => hk.2) _) (fun _ hk => hk.2) _) (fun _ hk => hk.2) _) (fun _ h_ => h_.1))))) (below_size ((u0_ GE1113.out GE1128.out)))); have n5_ := Aside0.mk (Kd.R_lower (Kd.R_new' (Kd.R_new' (Kd.R_new' (Kd.R_new' ho1 (Kd.R_lt (by refine kR_ ?_; exact (Kd.R_mono (Kd.R_far (Kd.R_far (Kd.R_far (Kd.R_types HO_1114001.out BK1128.out (by decide)) (fun _ hk => hk.2) _) (fun _ hk => hk.2) _) (fun _ hk => hk.2) _) (fun _ h_ => h_.1))))) (Kd.Q_lt (by refine kQ_ ?_; exact (Kd.Q_mono (Kd.Q_far (p := ⟨gb1128, 2, none⟩) (Kd.Q_far (p := ⟨gb1128, 1, none⟩) (Kd.Q_far (p := ⟨gb1128, 0, none⟩) (Kd.Q_types HO_1114002.out BK1128.out (by decide)) (fun _ hk => hk.2) _) (fun _ hk => hk.2) _) (fun _ hk => hk.2) _) (fun _ h_ => h_.1))))) (Kd.R_lt (by refine kR_ ?_; exact (Kd.R_mono (Kd.R_far (Kd.R_far (Kd.R_far (Kd.R_types HO1123.out BK1128.out (by decide)) (fun _ hk => hk.2) _) (fun _ hk => hk.2) _) (fun _ hk => hk.2) _) (fun _ h_ => h_.1))))) (Kd.R_lt (by refine kR_ ?_; exact (Kd.R_mono (Kd.R_far (Kd.R_far (Kd.R_far (Kd.R_types HO1126.out BK1128.out (by decide)) (fun _ hk => hk.2) _) (fun _ hk => hk.2) _) (fun _ hk => hk.2) _) (fun _ h_ => h_.1))))) (below_size ((u0_ GE1113.out GE1128.out)))); have n6_ := Aside0.mk (blk_below (g := gb1113) (o := .cells #[.int .i64 t1106, .slice Ao10 t1107.length co10, .slice Ao11 t1110.length co11] 42 (0, 0)) (by refine kK_ ?_; refine blk_far ?_ NB1113_1128.out _; refine kK_ ?_; refine blk_far ?_ NB1113_1128.out _; refine kK_ ?_; refine blk_far ?_ NB1113_1128.out _; exact rK_ BK1113.out) hb); have n7_ := Aside0.mk (blk_below (g := gb1128) (o := .cells #[.int .i64 t1120, .slice Ao63 t1121.length co63, .slice Ao64 t1124.length co64] 42 (0, 0)) (by refine kK_ ?_; refine blk_put (cs := #[.int .i64 t1120, .slice Ao63 t1121.length co63, .slice none 0 0]) ?_ 2 _ rfl; refine kK_ ?_; refine blk_put (cs := #[.int .i64 t1120, .slice none 0 0, .slice none 0 0]) ?_ 1 _ rfl; refine kK_ ?_; refine blk_put (cs := #[.int .i64 0, .slice none 0 0, .slice none 0 0]) ?_ 0 _ rfl; exact rK_ BK1128.out) hb); have n8_ := Aside0.mk (below_step ((u0_ GE1113.out GE1128.out)) hb); replace HO_1114001 := n0_; replace HO_1114002 := n1_; replace HO1123 := n2_; replace HO1126 := n3_; have HO1132 := n4_; have HO1135 := n5_; replace BK1113 := n6_; replace BK1128 := n7_; replace HB := n8_; clear n0_ n1_ n2_ n3_ n4_ n5_ n6_ n7_ n8_; (try clear hb); (try clear ho0); (try clear ho1)) | ((with_reducible refine gate_dst (N := 10) rfl ?_); refine box_event ?hg (N := 10) ?hd (cs := #[.int .i64 0, .slice none 0 0, .slice none 0 0]) (t := 42) ?hr ?_; (case hd => rfl); (case hg => rfl); (case hr => first | (go_simp; done) | (go_simp; rfl)); intro gb1137 hg w66 hbox hb; have n0_ := Aside0.mk (Kd.R_below (rR_ HO_1114001.out) hb); have n1_ := Aside0.mk (Kd.Q_below (rQ_ HO_1114002.out) hb); have n2_ := Aside0.mk (Kd.R_below (rR_ HO1123.out) hb); have n3_ := Aside0.mk (Kd.R_below (rR_ HO1126.out) hb); have n4_ := Aside0.mk (Kd.R_below (rR_ HO1132.out) hb); have n5_ := Aside0.mk (Kd.R_below (rR_ HO1135.out) hb); have n6_ := Aside0.mk (blk_below (g := gb1113) (o := .cells #[.int .i64 t1106, .slice Ao10 t1107.length co10, .slice Ao11 t1110.length co11] 42 (0, 0)) (rK_ BK1113.out) hb); have n7_ := Aside0.mk (blk_below (g := gb1128) (o := .cells #[.int .i64 t1120, .slice Ao63 t1121.length co63, .slice Ao64 t1124.length co64] 42 (0, 0)) (rK_ BK1128.out) hb); have n8_ := Aside0.mk (below_step ((u0_ GE1113.out GE1128.out)) hb); have n9_ := Aside0.mk (hbox); have n10_ := Aside0.mk ((by rw [hg]; exact (below_size ((u0_ GE1113.out GE1128.out))) : w.heap.size ≤ gb1137)); have n11_ := Aside0.mk ((by rw [hg]; exact (below_size ((u0_ GE1113.out GE1128.out))) : w.heap.size ≤ gb1137)); have n12_ := Aside0.mk ((by rw [hg]; exact Nat.ne_of_lt (blk_lt (g := gb1113) (o := .cells #[.int .i64 t1106, .slice Ao10 t1107.length co10, .slice Ao11 t1110.length co11] 42 (0, 0)) (rK_ BK1113.out)) : gb1113 ≠ gb1137)); have n13_ := Aside0.mk ((by rw [hg]; exact Nat.ne_of_gt (blk_lt (g := gb1113) (o := .cells #[.int .i64 t1106, .slice Ao10 t1107.length co10, .slice Ao11 t1110.length co11] 42 (0, 0)) (rK_ BK1113.out)) : gb1137 ≠ gb1113)); have n14_ := Aside0.mk ((by rw [hg]; exact Nat.ne_of_lt (blk_lt (g := gb1128) (o := .cells #[.int .i64 t1120, .slice Ao63 t1121.length co63, .slice Ao64 t1124.length co64] 42 (0, 0)) (rK_ BK1128.out)) : gb1128 ≠ gb1137)); have n15_ := Aside0.mk ((by rw [hg]; exact Nat.ne_of_gt (blk_lt (g := gb1128) (o := .cells #[.int .i64 t1120, .slice Ao63 t1121.length co63, .slice Ao64 t1124.length co64] 42 (0, 0)) (rK_ BK1128.out)) : gb1137 ≠ gb1128)); replace HO_1114001 := n0_; replace HO_1114002 := n1_; replace HO1123 := n2_; replace HO1126 := n3_; replace HO1132 := n4_; replace HO1135 := n5_; replace BK1113 := n6_; replace BK1128 := n7_; replace HB := n8_; have BK1137 := n9_; have GW1137 := n10_; have GE1137 := n11_; have NB1113_1137 := n12_; have NB1137_1113 := n13_; have NB1128_1137 := n14_; have NB1137_1128 := n15_; clear n0_ n1_ n2_ n3_ n4_ n5_ n6_ n7_ n8_ n9_ n10_ n11_ n12_ n13_ n14_ n15_; clear hb hbox hg; have hnb67 := NB1137_1113.out; have hnc67 := NB1113_1137.out; have hnb68 := NB1137_1128.out; have hnc68 := NB1128_1137.out; have hcz69_0 : w66.cell? ⟨gb1137, 0, none⟩ = some (.int .i64 0) := (blk_cell BK1137.out 0).trans rfl; have hcz69_1 : w66.cell? ⟨gb1137, 1, none⟩ = some (.slice none 0 0) := (blk_cell BK1137.out 1).trans rfl; have hcz69_2 : w66.cell? ⟨gb1137, 2, none⟩ = some (.slice none 0 0) := (blk_cell BK1137.out 2).trans rfl; have hfz69_0 := blk_frozen BK1137.out 0; have hfz69_1 := blk_frozen BK1137.out 1; have hfz69_2 := blk_frozen BK1137.out 2; obtain ⟨Ao70, co70, eo70⟩ := Kd.R_slice HO1132.out; subst eo70; obtain ⟨Ao71, co71, eo71⟩ := Kd.R_slice HO1135.out; subst eo71; have hcz72_0 : w66.cell? ⟨gb1128, 0, none⟩ = some (.int .i64 t1120) := (blk_cell BK1128.out 0).trans rfl; have hcz72_1 : w66.cell? ⟨gb1128, 1, none⟩ = some (.slice Ao63 t1121.length co63) := (blk_cell BK1128.out 1).trans rfl; have hcz72_2 : w66.cell? ⟨gb1128, 2, none⟩ = some (.slice Ao64 t1124.length co64) := (blk_cell BK1128.out 2).trans rfl; have hfz72_0 := blk_frozen BK1128.out 0; have hfz72_1 := blk_frozen BK1128.out 1; have hfz72_2 := blk_frozen BK1128.out 2) | ((with_reducible refine gate_callee (f := 45) rfl ?_); refine goesL_ (some 61) rfl rfl Tryd.func45 (by kernel_rfl) rfl #[.agg #[.int .i64 t1120, .slice Ao63 t1121.length co63, .slice Ao64 t1124.length co64]] rfl aM_ ?_; (with_reducible refine (impl_SigText.calls kj5 t1120 _ _ t1121 _ _ t1124 t1138 t1139 _ ?side1 ?side2 ?side3 ?side4 A39.out).mono ?_); (case side1 => refine (Kd.R_reads' (e := 9) (base := w.heap.size) (ok := fun k_ => ((((some k_ ≠ (.slice Ao64 t1124.length co64 : Value).ownBlock ∧ some k_ ≠ (.slice Ao10 t1107.length co10 : Value).ownBlock) ∧ some k_ ≠ (.slice Ao11 t1110.length co11 : Value).ownBlock) ∧ some k_ ≠ (.slice Ao70 t1130.length co70 : Value).ownBlock) ∧ some k_ ≠ (.slice Ao71 t1133.length co71 : Value).ownBlock)) (n := t1121.length) (c := co63) ?_).2.2; exact (by refine kR_ ?_; exact (Kd.R_mono (Kd.R_far (Kd.R_far (Kd.R_far (Kd.R_types HO1123.out BK1137.out (by decide)) (fun _ hk => hk.2) _) (fun _ hk => hk.2) _) (fun _ hk => hk.2) _) (fun _ h_ => h_.1)))); (case side2 => exact (Kd.R_reads' HO1123.out).2.1); (case side3 => refine (Kd.R_reads' (e := 9) (base := w.heap.size) (ok := fun k_ => ((((some k_ ≠ (.slice Ao63 t1121.length co63 : Value).ownBlock ∧ some k_ ≠ (.slice Ao10 t1107.length co10 : Value).ownBlock) ∧ some k_ ≠ (.slice Ao11 t1110.length co11 : Value).ownBlock) ∧ some k_ ≠ (.slice Ao70 t1130.length co70 : Value).ownBlock) ∧ some k_ ≠ (.slice Ao71 t1133.length co71 : Value).ownBlock)) (n := t1124.length) (c := co64) ?_).2.2; exact (by refine kR_ ?_; exact (Kd.R_mono (Kd.R_far (Kd.R_far (Kd.R_far (Kd.R_types HO1126.out BK1137.out (by decide)) (fun _ hk => hk.2) _) (fun _ hk => hk.2) _) (fun _ hk => hk.2) _) (fun _ h_ => h_.1)))); (case side4 => exact (Kd.R_reads' HO1126.out).2.1); rintro e w73 ⟨rfl, hb⟩; refine ⟨_, rfl, ?_⟩; have n0_ := Aside0.mk (Kd.R_below (by refine kR_ ?_; exact (Kd.R_mono (Kd.R_far (Kd.R_far (Kd.R_far (Kd.R_types HO_1114001.out BK1137.out (by decide)) (fun _ hk => hk.2) _) (fun _ hk => hk.2) _) (fun _ hk => hk.2) _) (fun _ h_ => h_.1))) hb); have n1_ := Aside0.mk (Kd.Q_below (by refine kQ_ ?_; exact (Kd.Q_mono (Kd.Q_far (p := ⟨gb1137, 2, none⟩) (Kd.Q_far (p := ⟨gb1137, 1, none⟩) (Kd.Q_far (p := ⟨gb1137, 0, none⟩) (Kd.Q_types HO_1114002.out BK1137.out (by decide)) (fun _ hk => hk.2) _) (fun _ hk => hk.2) _) (fun _ hk => hk.2) _) (fun _ h_ => h_.1))) hb); have n2_ := Aside0.mk (Kd.R_below (by refine kR_ ?_; exact (Kd.R_mono (Kd.R_far (Kd.R_far (Kd.R_far (Kd.R_types HO1123.out BK1137.out (by decide)) (fun _ hk => hk.2) _) (fun _ hk => hk.2) _) (fun _ hk => hk.2) _) (fun _ h_ => h_.1))) hb); have n3_ := Aside0.mk (Kd.R_below (by refine kR_ ?_; exact (Kd.R_mono (Kd.R_far (Kd.R_far (Kd.R_far (Kd.R_types HO1126.out BK1137.out (by decide)) (fun _ hk => hk.2) _) (fun _ hk => hk.2) _) (fun _ hk => hk.2) _) (fun _ h_ => h_.1))) hb); have n4_ := Aside0.mk (Kd.R_below (by refine kR_ ?_; exact (Kd.R_mono (Kd.R_far (Kd.R_far (Kd.R_far (Kd.R_types HO1132.out BK1137.out (by decide)) (fun _ hk => hk.2) _) (fun _ hk => hk.2) _) (fun _ hk => hk.2) _) (fun _ h_ => h_.1))) hb); have n5_ := Aside0.mk (Kd.R_below (by refine kR_ ?_; exact (Kd.R_mono (Kd.R_far (Kd.R_far (Kd.R_far (Kd.R_types HO1135.out BK1137.out (by decide)) (fun _ hk => hk.2) _) (fun _ hk => hk.2) _) (fun _ hk => hk.2) _) (fun _ h_ => h_.1))) hb); have n6_ := Aside0.mk (blk_below (g := gb1113) (o := .cells #[.int .i64 t1106, .slice Ao10 t1107.length co10, .slice Ao11 t1110.length co11] 42 (0, 0)) (by refine kK_ ?_; refine blk_far ?_ NB1113_1137.out _; refine kK_ ?_; refine blk_far ?_ NB1113_1137.out _; refine kK_ ?_; refine blk_far ?_ NB1113_1137.out _; exact rK_ BK1113.out) hb); have n7_ := Aside0.mk (blk_below (g := gb1128) (o := .cells #[.int .i64 t1120, .slice Ao63 t1121.length co63, .slice Ao64 t1124.length co64] 42 (0, 0)) (by refine kK_ ?_; refine blk_far ?_ NB1128_1137.out _; refine kK_ ?_; refine blk_far ?_ NB1128_1137.out _; refine kK_ ?_; refine blk_far ?_ NB1128_1137.out _; exact rK_ BK1128.out) hb); have n8_ := Aside0.mk (blk_below (g := gb1137) (o := .cells #[.int .i64 t1129, .slice Ao70 t1130.length co70, .slice Ao71 t1133.length co71] 42 (0, 0)) (by refine kK_ ?_; refine blk_put (cs := #[.int .i64 t1129, .slice Ao70 t1130.length co70, .slice none 0 0]) ?_ 2 _ rfl; refine kK_ ?_; refine blk_put (cs := #[.int .i64 t1129, .slice none 0 0, .slice none 0 0]) ?_ 1 _ rfl; refine kK_ ?_; refine blk_put (cs := #[.int .i64 0, .slice none 0 0, .slice none 0 0]) ?_ 0 _ rfl; exact rK_ BK1137.out) hb); have n9_ := Aside0.mk (below_step ((u7_ GE1113.out GE1128.out GE1137.out)) hb); replace HO_1114001 := n0_; replace HO_1114002 := n1_; replace HO1123 := n2_; replace HO1126 := n3_; replace HO1132 := n4_; replace HO1135 := n5_; replace BK1113 := n6_; replace BK1128 := n7_; replace BK1137 := n8_; replace HB := n9_; clear n0_ n1_ n2_ n3_ n4_ n5_ n6_ n7_ n8_ n9_; (try clear hb)))
      go_ret
      exact ⟨by first | rfl | (simp [errW_none, errW_some] <;> rfl) | (simp [*, errW_none, errW_some] <;> rfl), (u7_ GE1113.out GE1128.out GE1137.out)⟩

/-- THE ONE PURE STATEMENT of laws_FnChecks: yours. -/
def laws_FnChecks.Pure : Prop := ∀ (l0 : List Int), l0.length ≤ maxLen → l0.length * 1 ≤ 140737488351232 → (∀ x ∈ l0, (Lit.int .u8 x).wf = true) → ∃ k, laws_FnChecks.f k l0 = some true
theorem laws_FnChecks.walk (P : laws_FnChecks.Pure) (a0 : Option Addr) (len0 cap0 : Nat) (z0 : List Int) (w : World) (w0 : (a0 = none ∧ len0 = 0 ∧ cap0 = 0 ∧ z0 = []) ∨ ∃ x, a0 = some x ∧ len0 ≤ cap0 ∧ cap0 ≤ maxLen ∧ z0.length = cap0 ∧ (∀ i, i < z0.length → w.cell? (x.add i) = some (.int .u8 (z0.getD i 0))) ∧ ∀ n ∈ z0, (Lit.int .u8 n).wf = true) (y0 : len0 * 1 ≤ 140737488351232) (hLD : Laid w) :
  Calls Tryd.prog 11 #[.slice a0 len0 cap0] w fun e w' => e = .returned (.bool true) ∧ Below w.heap.size w w' := by
 have HLD := Aside0.mk hLD
 clear hLD
 obtain ⟨l0, rfl, hr0, hm0, hw0, hc0⟩ := ReadsInt.ofRowC w0
 obtain ⟨k, h⟩ := P l0 hm0 y0 hw0
 refine (laws_FnChecks.calls k _ _ l0 true w (Kd.C_of_reads (d := (0 : Int)) (h1 := fun _ => rfl) hr0) hc0 h HLD.out).mono ?_
 rintro e w' ⟨rfl, hd⟩
 exact ⟨rfl, hd⟩

end Go.Proofs.YtjcmafoepabpkaaDoor.P
