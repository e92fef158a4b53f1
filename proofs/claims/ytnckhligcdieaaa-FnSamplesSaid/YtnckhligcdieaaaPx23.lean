-- printed texts of this session, regrouped
import Derived.Test.YtnckhligcdieaaaMW6
import Derived.Test.YtnckhligcdieaaaPx0
import Derived.Test.YtnckhligcdieaaaPx2
import Derived.Test.YtnckhligcdieaaaPx18
import Derived.Test.YtnckhligcdieaaaPx19
namespace Go.Proofs.Ytnckhligcdieaaa.P
open Go.RowKit Go.Proofs.YtnckhligcdieaaaW.PrintWords Go.Proofs.YtnckhligcdieaaaW.PrintLast Go.Proofs.YtnckhligcdieaaaW.PrintMore
attribute [local go_sem] max2_int min2_int max_two min_two max_three min_three max_four min_four   -- for this text's walks alone
set_option linter.unusedVariables false
set_option linter.unusedSimpArgs false

/-! ### impl_Uniform: function 14 -/
mutual
def impl_Uniform.l0 : Nat → List Int → Int → Int → ByteArray → Int → Option (List Int)
 | 0, _, _, _, _, _ => none
 | k + 1, x8, x9, x10, x270000, x270001 => if x10 < 4000 then (impl_Uniform.j1 k x8 x9 x10 (decide (x9 < 256)) x270000 x270001) else (impl_Uniform.j1 k x8 x9 x10 false x270000 x270001)
def impl_Uniform.j1 : Nat → List Int → Int → Int → Bool → ByteArray → Int → Option (List Int)
 | 0, _, _, _, _, _, _ => none
 | k + 1, x8, x9, x10, x32, x270000, x270001 => if x32 = true then ((impl_StreamTake.f k x270000 x270001 3).bind fun bt273 => (if 0 < (bt273.2.2.size : Int) then (if 1 < (bt273.2.2.size : Int) then (if 2 < (bt273.2.2.size : Int) then ((some (([wrap64 ((wrap64 (bt bt273.2.2 0)) + (wrap64 ((Int.tmod (wrap64 (bt bt273.2.2 1)) 16) * 256))), wrap64 ((wrap64 (Int.tdiv (wrap64 (bt bt273.2.2 1)) 16)) + (wrap64 (16 * (wrap64 (bt bt273.2.2 2)))))] : List Int) : List Int)).bind fun y277 => (impl_Uniform.l1 k x8 x9 x10 y277 (y277.length : Int) 0 bt273.1 bt273.2.1)) else (none)) else (none)) else (none))) else (some x8)
def impl_Uniform.l1 : Nat → List Int → Int → Int → List Int → Int → Int → ByteArray → Int → Option (List Int)
 | 0, _, _, _, _, _, _, _, _ => none
 | k + 1, x8, x9, x10, x60, x61, x62, x270000, x270001 => if x62 < x61 then (if 0 ≤ x62 then (if x62 < (x60.length : Int) then (if (rd x60 x62) < 3329 then (if x9 < 256 then (if 0 ≤ x9 then (if x9 < (x8.length : Int) then (impl_Uniform.l1 k (x8.set (x9 : Int).toNat (rd x60 x62)) (wrap64 (x9 + 1)) x10 x60 x61 (wrap64 (x62 + 1)) x270000 x270001) else (none)) else (none)) else (impl_Uniform.l1 k x8 x9 x10 x60 x61 (wrap64 (x62 + 1)) x270000 x270001)) else (impl_Uniform.l1 k x8 x9 x10 x60 x61 (wrap64 (x62 + 1)) x270000 x270001)) else (none)) else (none)) else (impl_Uniform.l0 k x8 x9 (wrap64 (x10 + 1)) x270000 x270001)
end
def impl_Uniform.f (k : Nat) (a0 : ByteArray) (a1 : Int) (a2 : Int) : Option (List Int) := (impl_oneByte.f a1).bind fun t265 => (if a0.size + t265.size ≤ 9223372036854775807 then ((impl_oneByte.f a2).bind fun t266 => (if (a0 ++ t265).size + t266.size ≤ 9223372036854775807 then ((impl_StreamNew.f k ((a0 ++ t265) ++ t266)).bind fun bt267 => (if 256 ≤ 35184372088832 then (impl_Uniform.l0 k (List.replicate 256 0) 0 0 bt267.1 bt267.2) else (none))) else (none))) else (none))
theorem impl_Uniform.mono_l : ∀ k, (∀ y0 y1 y2 y3 y4, LeO (impl_Uniform.l0 k y0 y1 y2 y3 y4) (impl_Uniform.l0 (k + 1) y0 y1 y2 y3 y4)) ∧ (∀ y0 y1 y2 y3 y4 y5, LeO (impl_Uniform.j1 k y0 y1 y2 y3 y4 y5) (impl_Uniform.j1 (k + 1) y0 y1 y2 y3 y4 y5)) ∧ (∀ y0 y1 y2 y3 y4 y5 y6 y7, LeO (impl_Uniform.l1 k y0 y1 y2 y3 y4 y5 y6 y7) (impl_Uniform.l1 (k + 1) y0 y1 y2 y3 y4 y5 y6 y7))
 | 0 => ⟨fun _ _ _ _ _ r h => by simp [impl_Uniform.l0] at h, fun _ _ _ _ _ _ r h => by simp [impl_Uniform.j1] at h, fun _ _ _ _ _ _ _ _ r h => by simp [impl_Uniform.l1] at h⟩
 | k + 1 => by
  obtain ⟨ih0, ih1, ih2⟩ := impl_Uniform.mono_l k
  refine ⟨?_, ?_, ?_⟩
  ·intro y0 y1 y2 y3 y4
   unfold impl_Uniform.l0
   repeat' first
   | (with_reducible exact ih0 _ _ _ _ _)
   | (with_reducible exact ih1 _ _ _ _ _ _)
   | (with_reducible exact ih2 _ _ _ _ _ _ _ _)
   | (with_reducible exact impl_StreamNew.mono _ _)
   | (with_reducible exact impl_StreamTake.mono _ _ _ _)
   | (with_reducible exact LeO.refl _)
   | (with_reducible exact LeO.none _)
   | (with_reducible refine LeO.ite ?_ ?_)
   | (with_reducible refine LeO.bind ?_ (fun _ => ?_))
   | exact ih0 _ _ _ _ _
   | exact ih1 _ _ _ _ _ _
   | exact ih2 _ _ _ _ _ _ _ _
   | exact impl_StreamNew.mono _ _
   | exact impl_StreamTake.mono _ _ _ _
   | exact LeO.none _
   | refine LeO.ite ?_ ?_
   | refine LeO.bind ?_ (fun _ => ?_)
  ·intro y0 y1 y2 y3 y4 y5
   unfold impl_Uniform.j1
   repeat' first
   | (with_reducible exact ih0 _ _ _ _ _)
   | (with_reducible exact ih1 _ _ _ _ _ _)
   | (with_reducible exact ih2 _ _ _ _ _ _ _ _)
   | (with_reducible exact impl_StreamNew.mono _ _)
   | (with_reducible exact impl_StreamTake.mono _ _ _ _)
   | (with_reducible exact LeO.refl _)
   | (with_reducible exact LeO.none _)
   | (with_reducible refine LeO.ite ?_ ?_)
   | (with_reducible refine LeO.bind ?_ (fun _ => ?_))
   | exact ih0 _ _ _ _ _
   | exact ih1 _ _ _ _ _ _
   | exact ih2 _ _ _ _ _ _ _ _
   | exact impl_StreamNew.mono _ _
   | exact impl_StreamTake.mono _ _ _ _
   | exact LeO.none _
   | refine LeO.ite ?_ ?_
   | refine LeO.bind ?_ (fun _ => ?_)
  ·intro y0 y1 y2 y3 y4 y5 y6 y7
   unfold impl_Uniform.l1
   repeat' first
   | (with_reducible exact ih0 _ _ _ _ _)
   | (with_reducible exact ih1 _ _ _ _ _ _)
   | (with_reducible exact ih2 _ _ _ _ _ _ _ _)
   | (with_reducible exact impl_StreamNew.mono _ _)
   | (with_reducible exact impl_StreamTake.mono _ _ _ _)
   | (with_reducible exact LeO.refl _)
   | (with_reducible exact LeO.none _)
   | (with_reducible refine LeO.ite ?_ ?_)
   | (with_reducible refine LeO.bind ?_ (fun _ => ?_))
   | exact ih0 _ _ _ _ _
   | exact ih1 _ _ _ _ _ _
   | exact ih2 _ _ _ _ _ _ _ _
   | exact impl_StreamNew.mono _ _
   | exact impl_StreamTake.mono _ _ _ _
   | exact LeO.none _
   | refine LeO.ite ?_ ?_
   | refine LeO.bind ?_ (fun _ => ?_)
theorem impl_Uniform.mono : ∀ a0 a1 a2 k, LeO (impl_Uniform.f k a0 a1 a2) (impl_Uniform.f (k + 1) a0 a1 a2) := by
 intro a0 a1 a2 k
 obtain ⟨ih0, ih1, ih2⟩ := impl_Uniform.mono_l k
 unfold impl_Uniform.f
 repeat' first
   | (with_reducible exact ih0 _ _ _ _ _)
   | (with_reducible exact ih1 _ _ _ _ _ _)
   | (with_reducible exact ih2 _ _ _ _ _ _ _ _)
   | (with_reducible exact impl_StreamNew.mono _ _)
   | (with_reducible exact impl_StreamTake.mono _ _ _ _)
   | (with_reducible exact LeO.refl _)
   | (with_reducible exact LeO.none _)
   | (with_reducible refine LeO.ite ?_ ?_)
   | (with_reducible refine LeO.bind ?_ (fun _ => ?_))
   | exact ih0 _ _ _ _ _
   | exact ih1 _ _ _ _ _ _
   | exact ih2 _ _ _ _ _ _ _ _
   | exact impl_StreamNew.mono _ _
   | exact impl_StreamTake.mono _ _ _ _
   | exact LeO.none _
   | refine LeO.ite ?_ ?_
   | refine LeO.bind ?_ (fun _ => ?_)
set_option maxHeartbeats 8000000 in
set_option maxRecDepth 100000 in
theorem impl_Uniform.calls (k : Nat) (a0 : ByteArray) (a1 : Int) (a2 : Int) (r : List Int) (w : World) (h : impl_Uniform.f k a0 a1 a2 = some r) :
  Calls Try.prog 14 #[.string a0, .int .i64 a1, .int .i64 a2] w fun e w' => ∃ v0_ : Value, e = .returned (v0_) ∧ Kd.R (Kd.int .i64) 3 w' w.heap.size (fun _ => True) v0_ r ∧ Below w.heap.size w w' := by
 have hu53 := Try.underlying53
 have HB := Aside0.mk (Below.refl w.heap.size w)
 have H : ((impl_oneByte.f a1).bind fun t265 => (if a0.size + t265.size ≤ 9223372036854775807 then ((impl_oneByte.f a2).bind fun t266 => (if (a0 ++ t265).size + t266.size ≤ 9223372036854775807 then ((impl_StreamNew.f k ((a0 ++ t265) ++ t266)).bind fun bt267 => (if 256 ≤ 35184372088832 then (impl_Uniform.l0 k (List.replicate 256 0) 0 0 bt267.1 bt267.2) else (none))) else (none))) else (none))) = some r := h
 clear h
 replace H := Option.bind_eq_some_iff.mp H
 obtain ⟨t265, A40, H⟩ := H
 replace H : (if a0.size + t265.size ≤ 9223372036854775807 then ((impl_oneByte.f a2).bind fun t266 => (if (a0 ++ t265).size + t266.size ≤ 9223372036854775807 then ((impl_StreamNew.f k ((a0 ++ t265) ++ t266)).bind fun bt267 => (if 256 ≤ 35184372088832 then (impl_Uniform.l0 k (List.replicate 256 0) 0 0 bt267.1 bt267.2) else (none))) else (none))) else (none)) = some r := H
 have A4 := Aside0.mk A40
 clear A40
 by_cases c5 : a0.size + t265.size ≤ 9223372036854775807
 ·rw [if_pos c5] at H
  have c5b0 := eq_true c5
  have c5b1 : decide (a0.size + t265.size ≤ 9223372036854775807) = true := decide_eq_true c5
  try have c5b2 : (9223372036854775807 < a0.size + t265.size) = False := eq_false (Nat.not_lt.2 c5)
  replace H := Option.bind_eq_some_iff.mp H
  obtain ⟨t266, A60, H⟩ := H
  replace H : (if (a0 ++ t265).size + t266.size ≤ 9223372036854775807 then ((impl_StreamNew.f k ((a0 ++ t265) ++ t266)).bind fun bt267 => (if 256 ≤ 35184372088832 then (impl_Uniform.l0 k (List.replicate 256 0) 0 0 bt267.1 bt267.2) else (none))) else (none)) = some r := H
  have A6 := Aside0.mk A60
  clear A60
  by_cases c7 : (a0 ++ t265).size + t266.size ≤ 9223372036854775807
  ·rw [if_pos c7] at H
   have c7b0 := eq_true c7
   have c7b1 : decide ((a0 ++ t265).size + t266.size ≤ 9223372036854775807) = true := decide_eq_true c7
   try have c7b2 : (9223372036854775807 < (a0 ++ t265).size + t266.size) = False := eq_false (Nat.not_lt.2 c7)
   try (have c7b9 : (9223372036854775807 < (a0 ++ t265).size + t266.size) = False := c7b2; simp only [ByteArray.size_append] at c7b9)
   replace H := Option.bind_eq_some_iff.mp H
   obtain ⟨⟨t267, t268⟩, A80, H⟩ := H
   replace H : (if 256 ≤ 35184372088832 then (impl_Uniform.l0 k (List.replicate 256 0) 0 0 t267 t268) else (none)) = some r := H
   have A8 := Aside0.mk A80
   clear A80
   by_cases c9 : 256 ≤ 35184372088832
   ·rw [if_pos c9] at H
    have c9b0 := eq_true c9
    have c9b1 : decide (256 ≤ 35184372088832) = true := decide_eq_true c9
    clear c9
    obtain ⟨y270, hy270⟩ : ∃ y_ : List Int, y_ = (List.replicate 256 0) := ⟨_, rfl⟩
    replace H : (impl_Uniform.l0 k y270 0 0 t267 t268) = some r := by first | (rw [hy270]; with_reducible exact H) | (have H2_ := (Option.bind_some _ _).symm.trans H; rw [hy270]; with_reducible exact H2_) | (have H2_ := (Option.bind_some _ _).symm.trans H; with_reducible exact H2_) | with_reducible exact H | (rw [hy270]; exact H) | exact H
    have Ny270 := Aside0.mk hy270
    clear hy270
    have H' := Aside0.mk H
    clear H
    go_enter Try.func14, Try.ntmps14
    go_wp2_with (first | (go_at_call 32; (with_reducible refine (impl_oneByte.calls a1 t265 _ A4.out).mono ?_); rintro e w10 ⟨rfl, hb⟩; have n0_ := Aside0.mk (below_step (hB_) hb); clear HB; have HB := n0_; clear n0_; (try clear hb); (try clear hb2); (try clear hk); (try clear hi)) | (go_at_call 32; (with_reducible refine (impl_oneByte.calls a2 t266 _ A6.out).mono ?_); rintro e w11 ⟨rfl, hb⟩; have n0_ := Aside0.mk (below_step (hB_) hb); clear HB; have HB := n0_; clear n0_; (try clear hb); (try clear hb2); (try clear hk); (try clear hi)) | (go_at_call 36; (with_reducible refine (impl_StreamNew.calls k ((a0 ++ t265) ++ t266) t267 t268 _ A8.out).mono ?_); rintro e w12 ⟨rfl, hb⟩; have n0_ := Aside0.mk (below_step (hB_) hb); clear HB; have HB := n0_; clear n0_; (try clear hb); (try clear hb2); (try clear hk); (try clear hi)) | ((with_reducible refine gate_dst (N := 7) rfl ?_); refine box_event ?hg (N := 7) ?hd (cs := #[.string (⟨#[]⟩ : ByteArray), .int .i64 0]) (t := 53) ?hr ?_; (case hd => rfl); (case hg => rfl); (case hr => first | (go_simp; done) | (go_simp; rfl)); intro gb269 hg w13 hbox hb; have n0_ := Aside0.mk (below_step (hB_) hb); have n1_ := Aside0.mk (hbox); have n2_ := Aside0.mk ((by rw [hg]; exact (below_size (hB_)) : w.heap.size ≤ gb269)); have n3_ := Aside0.mk ((by rw [hg]; exact (below_size (hB_)) : w.heap.size ≤ gb269)); clear HB; have HB := n0_; have BK269 := n1_; have GW269 := n2_; have GE269 := n3_; clear n0_ n1_ n2_ n3_; clear hb hbox hg; have hcz14_0 : w13.cell? ⟨gb269, 0, none⟩ = some (.string (⟨#[]⟩ : ByteArray)) := (blk_cell BK269.out 0).trans rfl; have hcz14_1 : w13.cell? ⟨gb269, 1, none⟩ = some (.int .i64 0) := (blk_cell BK269.out 1).trans rfl; have hfz14_0 := blk_frozen BK269.out 0; have hfz14_1 := blk_frozen BK269.out 1) | ((with_reducible refine gate_dst (N := 26) rfl ?_); refine Kd.R_make (Kd.int .i64) _ 3 rfl (N := 26) rfl 22 _ _ rfl 256 rfl rfl Try.underlying22 (.int .i64 0) 8 info3 rfl (by decide) (by omega) 0 (ok := fun _ => True) (okp := fun _ => True) rfl (fun _ hk => hk) trivial (by omega) (by omega) (Below.refl _ _) (Nat.le_refl _) ?_; intro v271 w15 ho16 hb hg_ hnew_; clear hg_ hnew_; (first | rw [← Ny270.out] at ho16 | (simp only [Int.reduceToNat] at ho16; rw [← Ny270.out] at ho16)); have n0_ := Aside0.mk (Kd.R_lower ho16 (below_size (hS_ GE269.out))); have n1_ := Aside0.mk (blk_below (g := gb269) (o := .cells #[.string t267, .int .i64 t268] 53 (0, 0)) (by (with_reducible repeat (first | refine blk_drewN ?_ _ | refine blk_drew ?_ | refine blk_alloc ?_ _)); refine blk_put (cs := #[.string t267, .int .i64 0]) ?_ 1 _ rfl; (with_reducible repeat (first | refine blk_drewN ?_ _ | refine blk_drew ?_ | refine blk_alloc ?_ _)); refine blk_put (cs := #[.string (⟨#[]⟩ : ByteArray), .int .i64 0]) ?_ 0 _ rfl; exact rK_ BK269.out) hb); have n2_ := Aside0.mk (below_step (hS_ GE269.out) hb); clear BK269; clear HB; have HO272 := n0_; have BK269 := n1_; have HB := n2_; clear n0_ n1_ n2_; clear hb ho16))
    repeat (go_quiet (first | (go_at_call 32; (with_reducible refine (impl_oneByte.calls a1 t265 _ A4.out).mono ?_); rintro e w10 ⟨rfl, hb⟩; have n0_ := Aside0.mk (below_step (hB_) hb); clear HB; have HB := n0_; clear n0_; (try clear hb); (try clear hb2); (try clear hk); (try clear hi)) | (go_at_call 32; (with_reducible refine (impl_oneByte.calls a2 t266 _ A6.out).mono ?_); rintro e w11 ⟨rfl, hb⟩; have n0_ := Aside0.mk (below_step (hB_) hb); clear HB; have HB := n0_; clear n0_; (try clear hb); (try clear hb2); (try clear hk); (try clear hi)) | (go_at_call 36; (with_reducible refine (impl_StreamNew.calls k ((a0 ++ t265) ++ t266) t267 t268 _ A8.out).mono ?_); rintro e w12 ⟨rfl, hb⟩; have n0_ := Aside0.mk (below_step (hB_) hb); clear HB; have HB := n0_; clear n0_; (try clear hb); (try clear hb2); (try clear hk); (try clear hi)) | ((with_reducible refine gate_dst (N := 7) rfl ?_); refine box_event ?hg (N := 7) ?hd (cs := #[.string (⟨#[]⟩ : ByteArray), .int .i64 0]) (t := 53) ?hr ?_; (case hd => rfl); (case hg => rfl); (case hr => first | (go_simp; done) | (go_simp; rfl)); intro gb269 hg w13 hbox hb; have n0_ := Aside0.mk (below_step (hB_) hb); have n1_ := Aside0.mk (hbox); have n2_ := Aside0.mk ((by rw [hg]; exact (below_size (hB_)) : w.heap.size ≤ gb269)); have n3_ := Aside0.mk ((by rw [hg]; exact (below_size (hB_)) : w.heap.size ≤ gb269)); clear HB; have HB := n0_; have BK269 := n1_; have GW269 := n2_; have GE269 := n3_; clear n0_ n1_ n2_ n3_; clear hb hbox hg; have hcz14_0 : w13.cell? ⟨gb269, 0, none⟩ = some (.string (⟨#[]⟩ : ByteArray)) := (blk_cell BK269.out 0).trans rfl; have hcz14_1 : w13.cell? ⟨gb269, 1, none⟩ = some (.int .i64 0) := (blk_cell BK269.out 1).trans rfl; have hfz14_0 := blk_frozen BK269.out 0; have hfz14_1 := blk_frozen BK269.out 1) | ((with_reducible refine gate_dst (N := 26) rfl ?_); refine Kd.R_make (Kd.int .i64) _ 3 rfl (N := 26) rfl 22 _ _ rfl 256 rfl rfl Try.underlying22 (.int .i64 0) 8 info3 rfl (by decide) (by omega) 0 (ok := fun _ => True) (okp := fun _ => True) rfl (fun _ hk => hk) trivial (by omega) (by omega) (Below.refl _ _) (Nat.le_refl _) ?_; intro v271 w15 ho16 hb hg_ hnew_; clear hg_ hnew_; (first | rw [← Ny270.out] at ho16 | (simp only [Int.reduceToNat] at ho16; rw [← Ny270.out] at ho16)); have n0_ := Aside0.mk (Kd.R_lower ho16 (below_size (hS_ GE269.out))); have n1_ := Aside0.mk (blk_below (g := gb269) (o := .cells #[.string t267, .int .i64 t268] 53 (0, 0)) (by (with_reducible repeat (first | refine blk_drewN ?_ _ | refine blk_drew ?_ | refine blk_alloc ?_ _)); refine blk_put (cs := #[.string t267, .int .i64 0]) ?_ 1 _ rfl; (with_reducible repeat (first | refine blk_drewN ?_ _ | refine blk_drew ?_ | refine blk_alloc ?_ _)); refine blk_put (cs := #[.string (⟨#[]⟩ : ByteArray), .int .i64 0]) ?_ 0 _ rfl; exact rK_ BK269.out) hb); have n2_ := Aside0.mk (below_step (hS_ GE269.out) hb); clear BK269; clear HB; have HO272 := n0_; have BK269 := n1_; have HB := n2_; clear n0_ n1_ n2_; clear hb ho16)); try go_wp2_with (first | (go_at_call 32; (with_reducible refine (impl_oneByte.calls a1 t265 _ A4.out).mono ?_); rintro e w10 ⟨rfl, hb⟩; have n0_ := Aside0.mk (below_step (hB_) hb); clear HB; have HB := n0_; clear n0_; (try clear hb); (try clear hb2); (try clear hk); (try clear hi)) | (go_at_call 32; (with_reducible refine (impl_oneByte.calls a2 t266 _ A6.out).mono ?_); rintro e w11 ⟨rfl, hb⟩; have n0_ := Aside0.mk (below_step (hB_) hb); clear HB; have HB := n0_; clear n0_; (try clear hb); (try clear hb2); (try clear hk); (try clear hi)) | (go_at_call 36; (with_reducible refine (impl_StreamNew.calls k ((a0 ++ t265) ++ t266) t267 t268 _ A8.out).mono ?_); rintro e w12 ⟨rfl, hb⟩; have n0_ := Aside0.mk (below_step (hB_) hb); clear HB; have HB := n0_; clear n0_; (try clear hb); (try clear hb2); (try clear hk); (try clear hi)) | ((with_reducible refine gate_dst (N := 7) rfl ?_); refine box_event ?hg (N := 7) ?hd (cs := #[.string (⟨#[]⟩ : ByteArray), .int .i64 0]) (t := 53) ?hr ?_; (case hd => rfl); (case hg => rfl); (case hr => first | (go_simp; done) | (go_simp; rfl)); intro gb269 hg w13 hbox hb; have n0_ := Aside0.mk (below_step (hB_) hb); have n1_ := Aside0.mk (hbox); have n2_ := Aside0.mk ((by rw [hg]; exact (below_size (hB_)) : w.heap.size ≤ gb269)); have n3_ := Aside0.mk ((by rw [hg]; exact (below_size (hB_)) : w.heap.size ≤ gb269)); clear HB; have HB := n0_; have BK269 := n1_; have GW269 := n2_; have GE269 := n3_; clear n0_ n1_ n2_ n3_; clear hb hbox hg; have hcz14_0 : w13.cell? ⟨gb269, 0, none⟩ = some (.string (⟨#[]⟩ : ByteArray)) := (blk_cell BK269.out 0).trans rfl; have hcz14_1 : w13.cell? ⟨gb269, 1, none⟩ = some (.int .i64 0) := (blk_cell BK269.out 1).trans rfl; have hfz14_0 := blk_frozen BK269.out 0; have hfz14_1 := blk_frozen BK269.out 1) | ((with_reducible refine gate_dst (N := 26) rfl ?_); refine Kd.R_make (Kd.int .i64) _ 3 rfl (N := 26) rfl 22 _ _ rfl 256 rfl rfl Try.underlying22 (.int .i64 0) 8 info3 rfl (by decide) (by omega) 0 (ok := fun _ => True) (okp := fun _ => True) rfl (fun _ hk => hk) trivial (by omega) (by omega) (Below.refl _ _) (Nat.le_refl _) ?_; intro v271 w15 ho16 hb hg_ hnew_; clear hg_ hnew_; (first | rw [← Ny270.out] at ho16 | (simp only [Int.reduceToNat] at ho16; rw [← Ny270.out] at ho16)); have n0_ := Aside0.mk (Kd.R_lower ho16 (below_size (hS_ GE269.out))); have n1_ := Aside0.mk (blk_below (g := gb269) (o := .cells #[.string t267, .int .i64 t268] 53 (0, 0)) (by (with_reducible repeat (first | refine blk_drewN ?_ _ | refine blk_drew ?_ | refine blk_alloc ?_ _)); refine blk_put (cs := #[.string t267, .int .i64 0]) ?_ 1 _ rfl; (with_reducible repeat (first | refine blk_drewN ?_ _ | refine blk_drew ?_ | refine blk_alloc ?_ _)); refine blk_put (cs := #[.string (⟨#[]⟩ : ByteArray), .int .i64 0]) ?_ 0 _ rfl; exact rK_ BK269.out) hb); have n2_ := Aside0.mk (below_step (hS_ GE269.out) hb); clear BK269; clear HB; have HO272 := n0_; have BK269 := n1_; have HB := n2_; clear n0_ n1_ n2_; clear hb ho16)))
    go_loopg [9, 10] k (fun kq v9 v10 w' => ∃ (x8_1 : List Int) (x9_1 : Int) (x10_1 : Int) (x270000_1 : ByteArray) (x270001_1 : Int), v9 = .int .i64 x9_1 ∧ v10 = .int .i64 x10_1 ∧ Aside0 (impl_Uniform.l0 kq x8_1 x9_1 x10_1 x270000_1 x270001_1 = some r) ∧ Aside0 (kq ≤ k) ∧ Aside0 (Kd.R (Kd.int .i64) 3 w' w.heap.size (fun _ => True) v271 x8_1) ∧ Aside0 (w'.heap[gb269]? = some (.cells #[.string x270000_1, .int .i64 x270001_1] 53 (0, 0))) ∧ Aside0 (Below w.heap.size w w'))
    case atStart => exact ⟨(y270), (0), (0), (t267), (t268), (by first | rfl | (simp; done) | (simp [*]; done)), (by first | rfl | (simp; done) | (simp [*]; done)), H', ⟨Nat.le_refl _⟩, ⟨rR_ HO272.out⟩, ⟨by (with_reducible repeat (first | refine blk_drewN ?_ _ | refine blk_drew ?_ | refine blk_alloc ?_ _)); exact BK269.out⟩, ⟨hS_ GE269.out⟩⟩
    case round =>
     clear H'
     try clear c1
     try clear p2
     try clear c5
     try clear c5b0
     try clear c5b1
     try clear c5b2
     try clear c7
     try clear c7b0
     try clear c7b1
     try clear c7b2
     try clear c9
     try clear c9b0
     try clear c9b1
     try clear c14
     try clear hcz14_0
     try clear hcz14_1
     try clear hfz14_0
     try clear hfz14_1
     obtain ⟨x8_1, x9_1, x10_1, x270000_1, x270001_1, rfl, rfl, HA, HK1, HO_8, BK269, HB⟩ := hrel
     cases gk with
     | zero => exact absurd HA.out (by simp [impl_Uniform.l0])
     | succ k1 =>
      have H := HA.out
      clear HA
      simp only [impl_Uniform.l0] at H
      have HC17 := Aside0.mk H
      clear H
      go_upto_region 5 with (fail)
      repeat (go_quiet (fail); go_upto_region 5 with (fail))
      go_cut [32] (fun v32 wc => ∃ (kq : Nat) (x32_16 : Bool), v32 = .bool x32_16 ∧ Aside0 (impl_Uniform.j1 kq x8_1 x9_1 x10_1 x32_16 x270000_1 x270001_1 = some r) ∧ Aside0 (kq ≤ k1) ∧ Aside0 (Kd.R (Kd.int .i64) 3 wc w.heap.size (fun _ => True) v271 x8_1) ∧ Aside0 (wc.heap[gb269]? = some (.cells #[.string x270000_1, .int .i64 x270001_1] 53 (0, 0))) ∧ Aside0 (Below w.heap.size w wc))
      case first =>
       have H := HC17.out
       clear HC17
       by_cases c18 : x10_1 < 4000
       ·rw [if_pos c18] at H
        have c18b0 : decide (x10_1 < 4000) = true := decide_eq_true c18
        clear c18
        (first | rw [c18b0] | (simp only [i64_w, i32_w]; rw [c18b0]) | skip)
        have H' := Aside0.mk H
        clear H
        go_wp2
        repeat (go_quiet (fail); try go_wp2)
        go_meet
        case rel => exact ⟨_, (decide (x9_1 < 256)), (by first | rfl | (simp; done) | (simp [*]; done)), H', ⟨by have := HK1.out; first | omega | exact Nat.le_refl _⟩, ⟨rR_ HO_8.out⟩, ⟨by (with_reducible repeat (first | refine blk_drewN ?_ _ | refine blk_drew ?_ | refine blk_alloc ?_ _)); exact BK269.out⟩, ⟨hS_ GE269.out⟩⟩
       ·rw [if_neg c18] at H
        have c18b0 : decide (x10_1 < 4000) = false := decide_eq_false c18
        clear c18
        (first | rw [c18b0] | (simp only [i64_w, i32_w]; rw [c18b0]) | skip)
        have H' := Aside0.mk H
        clear H
        go_wp2
        repeat (go_quiet (fail); try go_wp2)
        go_meet
        case rel => exact ⟨_, (false), (by first | rfl | (simp; done) | (simp [*]; done)), H', ⟨by have := HK1.out; first | omega | exact Nat.le_refl _⟩, ⟨rR_ HO_8.out⟩, ⟨by (with_reducible repeat (first | refine blk_drewN ?_ _ | refine blk_drew ?_ | refine blk_alloc ?_ _)); exact BK269.out⟩, ⟨hS_ GE269.out⟩⟩
      case rest =>
       clear HC17
       try clear c1
       try clear p2
       try clear c5
       try clear c5b0
       try clear c5b1
       try clear c5b2
       try clear c7
       try clear c7b0
       try clear c7b1
       try clear c7b2
       try clear c9
       try clear c9b0
       try clear c9b1
       try clear c14
       try clear c18
       try clear c18b0
       try clear hcz14_0
       try clear hcz14_1
       try clear hfz14_0
       try clear hfz14_1
       try clear p2
       obtain ⟨kq, x32_16, rfl, HA, HJ16, HO_8, BK269, HB⟩ := hcut
       cases kq with
       | zero => exact absurd HA.out (by simp [impl_Uniform.j1])
       | succ kj16 =>
        have H := HA.out
        clear HA
        simp only [impl_Uniform.j1] at H
        by_cases c19 : x32_16 = true
        ·subst c19
         have H1 : ((impl_StreamTake.f kj16 x270000_1 x270001_1 3).bind fun bt273 => (if 0 < (bt273.2.2.size : Int) then (if 1 < (bt273.2.2.size : Int) then (if 2 < (bt273.2.2.size : Int) then ((some (([wrap64 ((wrap64 (bt bt273.2.2 0)) + (wrap64 ((Int.tmod (wrap64 (bt bt273.2.2 1)) 16) * 256))), wrap64 ((wrap64 (Int.tdiv (wrap64 (bt bt273.2.2 1)) 16)) + (wrap64 (16 * (wrap64 (bt bt273.2.2 2)))))] : List Int) : List Int)).bind fun y277 => (impl_Uniform.l1 kj16 x8_1 x9_1 x10_1 y277 (y277.length : Int) 0 bt273.1 bt273.2.1)) else (none)) else (none)) else (none))) = some r := by rw [if_pos rfl] at H; exact H
         clear H
         have H := H1
         clear H1
         replace H := Option.bind_eq_some_iff.mp H
         obtain ⟨⟨t273, t274, t275⟩, A200, H⟩ := H
         replace H : (if 0 < (t275.size : Int) then (if 1 < (t275.size : Int) then (if 2 < (t275.size : Int) then ((some (([wrap64 ((wrap64 (bt t275 0)) + (wrap64 ((Int.tmod (wrap64 (bt t275 1)) 16) * 256))), wrap64 ((wrap64 (Int.tdiv (wrap64 (bt t275 1)) 16)) + (wrap64 (16 * (wrap64 (bt t275 2)))))] : List Int) : List Int)).bind fun y277 => (impl_Uniform.l1 kj16 x8_1 x9_1 x10_1 y277 (y277.length : Int) 0 t273 t274)) else (none)) else (none)) else (none)) = some r := H
         have A20 := Aside0.mk A200
         clear A200
         by_cases c21 : 0 < (t275.size : Int)
         ·rw [if_pos c21] at H
          have c21b0 : decide (0 < (t275.size : Int)) = true := decide_eq_true c21
          have c21b1 : decide (0 < t275.size) = true := decide_eq_true (by omega)
          clear c21
          by_cases c23 : 1 < (t275.size : Int)
          ·rw [if_pos c23] at H
           have c23b0 : decide (1 < (t275.size : Int)) = true := decide_eq_true c23
           have c23b1 : decide (1 < t275.size) = true := decide_eq_true (by omega)
           clear c23
           by_cases c25 : 2 < (t275.size : Int)
           ·rw [if_pos c25] at H
            have c25b0 : decide (2 < (t275.size : Int)) = true := decide_eq_true c25
            have c25b1 : decide (2 < t275.size) = true := decide_eq_true (by omega)
            clear c25
            obtain ⟨y277, hy277⟩ : ∃ y_ : List Int, y_ = (([wrap64 ((wrap64 (bt t275 0)) + (wrap64 ((Int.tmod (wrap64 (bt t275 1)) 16) * 256))), wrap64 ((wrap64 (Int.tdiv (wrap64 (bt t275 1)) 16)) + (wrap64 (16 * (wrap64 (bt t275 2)))))] : List Int)) := ⟨_, rfl⟩
            replace H : (impl_Uniform.l1 kj16 x8_1 x9_1 x10_1 y277 (y277.length : Int) 0 t273 t274) = some r := by first | (rw [hy277]; with_reducible exact H) | (have H2_ := (Option.bind_some _ _).symm.trans H; rw [hy277]; with_reducible exact H2_) | (have H2_ := (Option.bind_some _ _).symm.trans H; with_reducible exact H2_) | with_reducible exact H | (rw [hy277]; exact H) | exact H
            have Ny277 := Aside0.mk hy277
            clear hy277
            have H' := Aside0.mk H
            clear H
            have hcz27_0 : wc.cell? ⟨gb269, 0, none⟩ = some (.string x270000_1) := (blk_cell BK269.out 0).trans rfl
            have hcz27_1 : wc.cell? ⟨gb269, 1, none⟩ = some (.int .i64 x270001_1) := (blk_cell BK269.out 1).trans rfl
            have hfz27_0 := blk_frozen BK269.out 0
            have hfz27_1 := blk_frozen BK269.out 1
            go_wp2_with (first | (go_at_call 37; (with_reducible refine (impl_StreamTake.calls kj16 x270000_1 x270001_1 3 t273 t274 t275 _ A20.out).mono ?_); rintro e w28 ⟨rfl, hb⟩; have n0_ := Aside0.mk (Kd.R_below (rR_ HO_8.out) hb); have n1_ := Aside0.mk (blk_below (g := gb269) (o := .cells #[.string x270000_1, .int .i64 x270001_1] 53 (0, 0)) (rK_ BK269.out) hb); have n2_ := Aside0.mk (below_step (hS_ GE269.out) hb); clear HO_8; clear BK269; clear HB; have HO_8 := n0_; have BK269 := n1_; have HB := n2_; clear n0_ n1_ n2_; (try clear hb); (try clear hb2); (try clear hk); (try clear hi)) | ((with_reducible refine gate_dst (N := 11) rfl ?_); refine box_event ?hg (N := 11) ?hd (cs := #[.string (⟨#[]⟩ : ByteArray), .int .i64 0]) (t := 53) ?hr ?_; (case hd => rfl); (case hg => rfl); (case hr => first | (go_simp; done) | (go_simp; rfl)); intro gb276 hg w29 hbox hb; have n0_ := Aside0.mk (Kd.R_below (rR_ HO_8.out) hb); have n1_ := Aside0.mk (blk_below (g := gb269) (o := .cells #[.string x270000_1, .int .i64 x270001_1] 53 (0, 0)) (rK_ BK269.out) hb); have n2_ := Aside0.mk (below_step (hS_ GE269.out) hb); have n3_ := Aside0.mk (hbox); have n4_ := Aside0.mk ((by rw [hg]; exact (below_size (hS_ GE269.out)) : w.heap.size ≤ gb276)); have n5_ := Aside0.mk ((by rw [hg]; exact (below_size (hS_ GE269.out)) : w.heap.size ≤ gb276)); have n6_ := Aside0.mk ((by rw [hg]; exact Nat.ne_of_lt (blk_lt (g := gb269) (o := .cells #[.string x270000_1, .int .i64 x270001_1] 53 (0, 0)) (rK_ BK269.out)) : gb269 ≠ gb276)); have n7_ := Aside0.mk ((by rw [hg]; exact Nat.ne_of_gt (blk_lt (g := gb269) (o := .cells #[.string x270000_1, .int .i64 x270001_1] 53 (0, 0)) (rK_ BK269.out)) : gb276 ≠ gb269)); clear HO_8; clear BK269; clear HB; have HO_8 := n0_; have BK269 := n1_; have HB := n2_; have BK276 := n3_; have GW276 := n4_; have GE276 := n5_; have NB269_276 := n6_; have NB276_269 := n7_; clear n0_ n1_ n2_ n3_ n4_ n5_ n6_ n7_; clear hb hbox hg; have hnb30 := NB276_269.out; have hnc30 := NB269_276.out; have hcz31_0 : w29.cell? ⟨gb276, 0, none⟩ = some (.string (⟨#[]⟩ : ByteArray)) := (blk_cell BK276.out 0).trans rfl; have hcz31_1 : w29.cell? ⟨gb276, 1, none⟩ = some (.int .i64 0) := (blk_cell BK276.out 1).trans rfl; have hfz31_0 := blk_frozen BK276.out 0; have hfz31_1 := blk_frozen BK276.out 1; have hcz32_0 : w29.cell? ⟨gb269, 0, none⟩ = some (.string x270000_1) := (blk_cell BK269.out 0).trans rfl; have hcz32_1 : w29.cell? ⟨gb269, 1, none⟩ = some (.int .i64 x270001_1) := (blk_cell BK269.out 1).trans rfl; have hfz32_0 := blk_frozen BK269.out 0; have hfz32_1 := blk_frozen BK269.out 1; have p22 : 0 ≤ (0 : Int) := (by omega); have q22 : 0 < t275.size := (by have : (0 : Int) < (t275.size : Int) := of_decide_eq_true (by first | (with_reducible assumption) | assumption); omega); have hx22 : ∀ h : 0 < t275.size, ((t275[0]'h).toNat : Int) = bt t275 0 := bt_at t275 0; clear p22; have qi22 : (0 < (t275.size : Int)) = True := eq_true (of_decide_eq_true (by first | (with_reducible assumption) | assumption)); replace q22 := eq_true q22; have p24 : 0 ≤ (1 : Int) := (by omega); have q24 : 1 < t275.size := (by have : (1 : Int) < (t275.size : Int) := of_decide_eq_true (by first | (with_reducible assumption) | assumption); omega); have hx24 : ∀ h : 1 < t275.size, ((t275[1]'h).toNat : Int) = bt t275 1 := bt_at t275 1; clear p24; have qi24 : (1 < (t275.size : Int)) = True := eq_true (of_decide_eq_true (by first | (with_reducible assumption) | assumption)); replace q24 := eq_true q24; have p26 : 0 ≤ (2 : Int) := (by omega); have q26 : 2 < t275.size := (by have : (2 : Int) < (t275.size : Int) := of_decide_eq_true (by first | (with_reducible assumption) | assumption); omega); have hx26 : ∀ h : 2 < t275.size, ((t275[2]'h).toNat : Int) = bt t275 2 := bt_at t275 2; clear p26; have qi26 : (2 < (t275.size : Int)) = True := eq_true (of_decide_eq_true (by first | (with_reducible assumption) | assumption)); replace q26 := eq_true q26) | ((with_reducible refine gate_dst (N := 60) rfl ?_); refine Kd.R_lit (Kd.int .i64) _ 3 ?hg (N := 60) ?hd (xs := ([wrap64 ((wrap64 (bt t275 0)) + (wrap64 ((Int.tmod (wrap64 (bt t275 1)) 16) * 256))), wrap64 ((wrap64 (Int.tdiv (wrap64 (bt t275 1)) 16)) + (wrap64 (16 * (wrap64 (bt t275 2)))))] : List Int)) (inner := [.int .i64 (wrap64 ((wrap64 (bt t275 0)) + (wrap64 ((Int.tmod (wrap64 (bt t275 1)) 16) * 256)))), .int .i64 (wrap64 ((wrap64 (Int.tdiv (wrap64 (bt t275 1)) 16)) + (wrap64 (16 * (wrap64 (bt t275 2))))))]) (ok := fun _ => True) (okp := fun _ => True) ?hr ?hp (fun _ hk => hk) trivial (Below.refl _ _) (Nat.le_refl _) (by simp) ?_; (case hd => rfl); (case hg => rfl); (case hr => first | (go_simp; done) | (go_simp; rfl)); (case hp => exact (Reps.one (show Kd.M (Kd.int .i64) _ _ _ (wrap64 ((wrap64 (bt t275 0)) + (wrap64 ((Int.tmod (wrap64 (bt t275 1)) 16) * 256)))) [.int .i64 (wrap64 ((wrap64 (bt t275 0)) + (wrap64 ((Int.tmod (wrap64 (bt t275 1)) 16) * 256))))] from rfl) (Reps.one (show Kd.M (Kd.int .i64) _ _ _ (wrap64 ((wrap64 (Int.tdiv (wrap64 (bt t275 1)) 16)) + (wrap64 (16 * (wrap64 (bt t275 2)))))) [.int .i64 (wrap64 ((wrap64 (Int.tdiv (wrap64 (bt t275 1)) 16)) + (wrap64 (16 * (wrap64 (bt t275 2))))))] from rfl) (Reps.none _ _)))); intro v278 w33 ho34 hb hg_ hnew_; clear hg_ hnew_; (first | rw [← Ny277.out] at ho34 | (simp only [Int.reduceToNat] at ho34; rw [← Ny277.out] at ho34)); have n0_ := Aside0.mk (Kd.R_elder' (by (with_reducible repeat (first | apply Kd.R_alloc | apply Kd.R_drewN | apply Kd.R_drew)); exact (Kd.R_mono (Kd.R_mono (Kd.R_far (Kd.R_far (Kd.R_far (Kd.R_far (Kd.R_types (Kd.R_types HO_8.out BK276.out (by decide)) BK269.out (by decide)) (fun _ hk => hk.1.2) (.string t273)) (fun _ hk => hk.1.2) (.int .i64 t274)) (fun _ hk => hk.2) _) (fun _ hk => hk.2) _) (fun _ h_ => h_.1)) (fun _ h_ => h_.1))) (Kd.R_base ho34) hb); have n1_ := Aside0.mk (Kd.R_lower (Kd.R_new' ho34 (Kd.R_lt (by (with_reducible repeat (first | apply Kd.R_alloc | apply Kd.R_drewN | apply Kd.R_drew)); exact (Kd.R_mono (Kd.R_mono (Kd.R_far (Kd.R_far (Kd.R_far (Kd.R_far (Kd.R_types (Kd.R_types HO_8.out BK276.out (by decide)) BK269.out (by decide)) (fun _ hk => hk.1.2) (.string t273)) (fun _ hk => hk.1.2) (.int .i64 t274)) (fun _ hk => hk.2) _) (fun _ hk => hk.2) _) (fun _ h_ => h_.1)) (fun _ h_ => h_.1))))) (below_size (by repeat (first | (with_reducible first | exact HB.out | apply below_alloc | apply pw_below_drewN | apply below_drew1 | refine below_set ?_ GE269.out | refine below_set ?_ GE276.out) | exact HB.out)))); have n2_ := Aside0.mk (blk_below (g := gb269) (o := .cells #[.string t273, .int .i64 t274] 53 (0, 0)) (by (with_reducible repeat (first | refine blk_drewN ?_ _ | refine blk_drew ?_ | refine blk_alloc ?_ _)); refine blk_put (cs := #[.string t273, .int .i64 x270001_1]) ?_ 1 _ rfl; (with_reducible repeat (first | refine blk_drewN ?_ _ | refine blk_drew ?_ | refine blk_alloc ?_ _)); refine blk_put (cs := #[.string x270000_1, .int .i64 x270001_1]) ?_ 0 _ rfl; (with_reducible repeat (first | refine blk_drewN ?_ _ | refine blk_drew ?_ | refine blk_alloc ?_ _)); refine blk_far ?_ NB269_276.out _; (with_reducible repeat (first | refine blk_drewN ?_ _ | refine blk_drew ?_ | refine blk_alloc ?_ _)); refine blk_far ?_ NB269_276.out _; exact rK_ BK269.out) hb); have n3_ := Aside0.mk (blk_below (g := gb276) (o := .cells #[.string t273, .int .i64 t274] 53 (0, 0)) (by (with_reducible repeat (first | refine blk_drewN ?_ _ | refine blk_drew ?_ | refine blk_alloc ?_ _)); refine blk_far ?_ NB276_269.out _; (with_reducible repeat (first | refine blk_drewN ?_ _ | refine blk_drew ?_ | refine blk_alloc ?_ _)); refine blk_far ?_ NB276_269.out _; (with_reducible repeat (first | refine blk_drewN ?_ _ | refine blk_drew ?_ | refine blk_alloc ?_ _)); refine blk_put (cs := #[.string t273, .int .i64 0]) ?_ 1 _ rfl; (with_reducible repeat (first | refine blk_drewN ?_ _ | refine blk_drew ?_ | refine blk_alloc ?_ _)); refine blk_put (cs := #[.string (⟨#[]⟩ : ByteArray), .int .i64 0]) ?_ 0 _ rfl; exact rK_ BK276.out) hb); have n4_ := Aside0.mk (below_step (by repeat (first | (with_reducible first | exact HB.out | apply below_alloc | apply pw_below_drewN | apply below_drew1 | refine below_set ?_ GE269.out | refine below_set ?_ GE276.out) | exact HB.out)) hb); clear HO_8; clear BK269; clear BK276; clear HB; have HO_8 := n0_; have HO279 := n1_; have BK269 := n2_; have BK276 := n3_; have HB := n4_; clear n0_ n1_ n2_ n3_ n4_; clear hb ho34; obtain ⟨Ao35, co35, eo35⟩ := Kd.R_slice HO279.out; subst eo35))
            repeat (go_quiet (first | (go_at_call 37; (with_reducible refine (impl_StreamTake.calls kj16 x270000_1 x270001_1 3 t273 t274 t275 _ A20.out).mono ?_); rintro e w28 ⟨rfl, hb⟩; have n0_ := Aside0.mk (Kd.R_below (rR_ HO_8.out) hb); have n1_ := Aside0.mk (blk_below (g := gb269) (o := .cells #[.string x270000_1, .int .i64 x270001_1] 53 (0, 0)) (rK_ BK269.out) hb); have n2_ := Aside0.mk (below_step (hS_ GE269.out) hb); clear HO_8; clear BK269; clear HB; have HO_8 := n0_; have BK269 := n1_; have HB := n2_; clear n0_ n1_ n2_; (try clear hb); (try clear hb2); (try clear hk); (try clear hi)) | ((with_reducible refine gate_dst (N := 11) rfl ?_); refine box_event ?hg (N := 11) ?hd (cs := #[.string (⟨#[]⟩ : ByteArray), .int .i64 0]) (t := 53) ?hr ?_; (case hd => rfl); (case hg => rfl); (case hr => first | (go_simp; done) | (go_simp; rfl)); intro gb276 hg w29 hbox hb; have n0_ := Aside0.mk (Kd.R_below (rR_ HO_8.out) hb); have n1_ := Aside0.mk (blk_below (g := gb269) (o := .cells #[.string x270000_1, .int .i64 x270001_1] 53 (0, 0)) (rK_ BK269.out) hb); have n2_ := Aside0.mk (below_step (hS_ GE269.out) hb); have n3_ := Aside0.mk (hbox); have n4_ := Aside0.mk ((by rw [hg]; exact (below_size (hS_ GE269.out)) : w.heap.size ≤ gb276)); have n5_ := Aside0.mk ((by rw [hg]; exact (below_size (hS_ GE269.out)) : w.heap.size ≤ gb276)); have n6_ := Aside0.mk ((by rw [hg]; exact Nat.ne_of_lt (blk_lt (g := gb269) (o := .cells #[.string x270000_1, .int .i64 x270001_1] 53 (0, 0)) (rK_ BK269.out)) : gb269 ≠ gb276)); have n7_ := Aside0.mk ((by rw [hg]; exact Nat.ne_of_gt (blk_lt (g := gb269) (o := .cells #[.string x270000_1, .int .i64 x270001_1] 53 (0, 0)) (rK_ BK269.out)) : gb276 ≠ gb269)); clear HO_8; clear BK269; clear HB; have HO_8 := n0_; have BK269 := n1_; have HB := n2_; have BK276 := n3_; have GW276 := n4_; have GE276 := n5_; have NB269_276 := n6_; have NB276_269 := n7_; clear n0_ n1_ n2_ n3_ n4_ n5_ n6_ n7_; clear hb hbox hg; have hnb30 := NB276_269.out; have hnc30 := NB269_276.out; have hcz31_0 : w29.cell? ⟨gb276, 0, none⟩ = some (.string (⟨#[]⟩ : ByteArray)) := (blk_cell BK276.out 0).trans rfl; have hcz31_1 : w29.cell? ⟨gb276, 1, none⟩ = some (.int .i64 0) := (blk_cell BK276.out 1).trans rfl; have hfz31_0 := blk_frozen BK276.out 0; have hfz31_1 := blk_frozen BK276.out 1; have hcz32_0 : w29.cell? ⟨gb269, 0, none⟩ = some (.string x270000_1) := (blk_cell BK269.out 0).trans rfl; have hcz32_1 : w29.cell? ⟨gb269, 1, none⟩ = some (.int .i64 x270001_1) := (blk_cell BK269.out 1).trans rfl; have hfz32_0 := blk_frozen BK269.out 0; have hfz32_1 := blk_frozen BK269.out 1; have p22 : 0 ≤ (0 : Int) := (by omega); have q22 : 0 < t275.size := (by have : (0 : Int) < (t275.size : Int) := of_decide_eq_true (by first | (with_reducible assumption) | assumption); omega); have hx22 : ∀ h : 0 < t275.size, ((t275[0]'h).toNat : Int) = bt t275 0 := bt_at t275 0; clear p22; have qi22 : (0 < (t275.size : Int)) = True := eq_true (of_decide_eq_true (by first | (with_reducible assumption) | assumption)); replace q22 := eq_true q22; have p24 : 0 ≤ (1 : Int) := (by omega); have q24 : 1 < t275.size := (by have : (1 : Int) < (t275.size : Int) := of_decide_eq_true (by first | (with_reducible assumption) | assumption); omega); have hx24 : ∀ h : 1 < t275.size, ((t275[1]'h).toNat : Int) = bt t275 1 := bt_at t275 1; clear p24; have qi24 : (1 < (t275.size : Int)) = True := eq_true (of_decide_eq_true (by first | (with_reducible assumption) | assumption)); replace q24 := eq_true q24; have p26 : 0 ≤ (2 : Int) := (by omega); have q26 : 2 < t275.size := (by have : (2 : Int) < (t275.size : Int) := of_decide_eq_true (by first | (with_reducible assumption) | assumption); omega); have hx26 : ∀ h : 2 < t275.size, ((t275[2]'h).toNat : Int) = bt t275 2 := bt_at t275 2; clear p26; have qi26 : (2 < (t275.size : Int)) = True := eq_true (of_decide_eq_true (by first | (with_reducible assumption) | assumption)); replace q26 := eq_true q26) | ((with_reducible refine gate_dst (N := 60) rfl ?_); refine Kd.R_lit (Kd.int .i64) _ 3 ?hg (N := 60) ?hd (xs := ([wrap64 ((wrap64 (bt t275 0)) + (wrap64 ((Int.tmod (wrap64 (bt t275 1)) 16) * 256))), wrap64 ((wrap64 (Int.tdiv (wrap64 (bt t275 1)) 16)) + (wrap64 (16 * (wrap64 (bt t275 2)))))] : List Int)) (inner := [.int .i64 (wrap64 ((wrap64 (bt t275 0)) + (wrap64 ((Int.tmod (wrap64 (bt t275 1)) 16) * 256)))), .int .i64 (wrap64 ((wrap64 (Int.tdiv (wrap64 (bt t275 1)) 16)) + (wrap64 (16 * (wrap64 (bt t275 2))))))]) (ok := fun _ => True) (okp := fun _ => True) ?hr ?hp (fun _ hk => hk) trivial (Below.refl _ _) (Nat.le_refl _) (by simp) ?_; (case hd => rfl); (case hg => rfl); (case hr => first | (go_simp; done) | (go_simp; rfl)); (case hp => exact (Reps.one (show Kd.M (Kd.int .i64) _ _ _ (wrap64 ((wrap64 (bt t275 0)) + (wrap64 ((Int.tmod (wrap64 (bt t275 1)) 16) * 256)))) [.int .i64 (wrap64 ((wrap64 (bt t275 0)) + (wrap64 ((Int.tmod (wrap64 (bt t275 1)) 16) * 256))))] from rfl) (Reps.one (show Kd.M (Kd.int .i64) _ _ _ (wrap64 ((wrap64 (Int.tdiv (wrap64 (bt t275 1)) 16)) + (wrap64 (16 * (wrap64 (bt t275 2)))))) [.int .i64 (wrap64 ((wrap64 (Int.tdiv (wrap64 (bt t275 1)) 16)) + (wrap64 (16 * (wrap64 (bt t275 2))))))] from rfl) (Reps.none _ _)))); intro v278 w33 ho34 hb hg_ hnew_; clear hg_ hnew_; (first | rw [← Ny277.out] at ho34 | (simp only [Int.reduceToNat] at ho34; rw [← Ny277.out] at ho34)); have n0_ := Aside0.mk (Kd.R_elder' (by (with_reducible repeat (first | apply Kd.R_alloc | apply Kd.R_drewN | apply Kd.R_drew)); exact (Kd.R_mono (Kd.R_mono (Kd.R_far (Kd.R_far (Kd.R_far (Kd.R_far (Kd.R_types (Kd.R_types HO_8.out BK276.out (by decide)) BK269.out (by decide)) (fun _ hk => hk.1.2) (.string t273)) (fun _ hk => hk.1.2) (.int .i64 t274)) (fun _ hk => hk.2) _) (fun _ hk => hk.2) _) (fun _ h_ => h_.1)) (fun _ h_ => h_.1))) (Kd.R_base ho34) hb); have n1_ := Aside0.mk (Kd.R_lower (Kd.R_new' ho34 (Kd.R_lt (by (with_reducible repeat (first | apply Kd.R_alloc | apply Kd.R_drewN | apply Kd.R_drew)); exact (Kd.R_mono (Kd.R_mono (Kd.R_far (Kd.R_far (Kd.R_far (Kd.R_far (Kd.R_types (Kd.R_types HO_8.out BK276.out (by decide)) BK269.out (by decide)) (fun _ hk => hk.1.2) (.string t273)) (fun _ hk => hk.1.2) (.int .i64 t274)) (fun _ hk => hk.2) _) (fun _ hk => hk.2) _) (fun _ h_ => h_.1)) (fun _ h_ => h_.1))))) (below_size (by repeat (first | (with_reducible first | exact HB.out | apply below_alloc | apply pw_below_drewN | apply below_drew1 | refine below_set ?_ GE269.out | refine below_set ?_ GE276.out) | exact HB.out)))); have n2_ := Aside0.mk (blk_below (g := gb269) (o := .cells #[.string t273, .int .i64 t274] 53 (0, 0)) (by (with_reducible repeat (first | refine blk_drewN ?_ _ | refine blk_drew ?_ | refine blk_alloc ?_ _)); refine blk_put (cs := #[.string t273, .int .i64 x270001_1]) ?_ 1 _ rfl; (with_reducible repeat (first | refine blk_drewN ?_ _ | refine blk_drew ?_ | refine blk_alloc ?_ _)); refine blk_put (cs := #[.string x270000_1, .int .i64 x270001_1]) ?_ 0 _ rfl; (with_reducible repeat (first | refine blk_drewN ?_ _ | refine blk_drew ?_ | refine blk_alloc ?_ _)); refine blk_far ?_ NB269_276.out _; (with_reducible repeat (first | refine blk_drewN ?_ _ | refine blk_drew ?_ | refine blk_alloc ?_ _)); refine blk_far ?_ NB269_276.out _; exact rK_ BK269.out) hb); have n3_ := Aside0.mk (blk_below (g := gb276) (o := .cells #[.string t273, .int .i64 t274] 53 (0, 0)) (by (with_reducible repeat (first | refine blk_drewN ?_ _ | refine blk_drew ?_ | refine blk_alloc ?_ _)); refine blk_far ?_ NB276_269.out _; (with_reducible repeat (first | refine blk_drewN ?_ _ | refine blk_drew ?_ | refine blk_alloc ?_ _)); refine blk_far ?_ NB276_269.out _; (with_reducible repeat (first | refine blk_drewN ?_ _ | refine blk_drew ?_ | refine blk_alloc ?_ _)); refine blk_put (cs := #[.string t273, .int .i64 0]) ?_ 1 _ rfl; (with_reducible repeat (first | refine blk_drewN ?_ _ | refine blk_drew ?_ | refine blk_alloc ?_ _)); refine blk_put (cs := #[.string (⟨#[]⟩ : ByteArray), .int .i64 0]) ?_ 0 _ rfl; exact rK_ BK276.out) hb); have n4_ := Aside0.mk (below_step (by repeat (first | (with_reducible first | exact HB.out | apply below_alloc | apply pw_below_drewN | apply below_drew1 | refine below_set ?_ GE269.out | refine below_set ?_ GE276.out) | exact HB.out)) hb); clear HO_8; clear BK269; clear BK276; clear HB; have HO_8 := n0_; have HO279 := n1_; have BK269 := n2_; have BK276 := n3_; have HB := n4_; clear n0_ n1_ n2_ n3_ n4_; clear hb ho34; obtain ⟨Ao35, co35, eo35⟩ := Kd.R_slice HO279.out; subst eo35)); try go_wp2_with (first | (go_at_call 37; (with_reducible refine (impl_StreamTake.calls kj16 x270000_1 x270001_1 3 t273 t274 t275 _ A20.out).mono ?_); rintro e w28 ⟨rfl, hb⟩; have n0_ := Aside0.mk (Kd.R_below (rR_ HO_8.out) hb); have n1_ := Aside0.mk (blk_below (g := gb269) (o := .cells #[.string x270000_1, .int .i64 x270001_1] 53 (0, 0)) (rK_ BK269.out) hb); have n2_ := Aside0.mk (below_step (hS_ GE269.out) hb); clear HO_8; clear BK269; clear HB; have HO_8 := n0_; have BK269 := n1_; have HB := n2_; clear n0_ n1_ n2_; (try clear hb); (try clear hb2); (try clear hk); (try clear hi)) | ((with_reducible refine gate_dst (N := 11) rfl ?_); refine box_event ?hg (N := 11) ?hd (cs := #[.string (⟨#[]⟩ : ByteArray), .int .i64 0]) (t := 53) ?hr ?_; (case hd => rfl); (case hg => rfl); (case hr => first | (go_simp; done) | (go_simp; rfl)); intro gb276 hg w29 hbox hb; have n0_ := Aside0.mk (Kd.R_below (rR_ HO_8.out) hb); have n1_ := Aside0.mk (blk_below (g := gb269) (o := .cells #[.string x270000_1, .int .i64 x270001_1] 53 (0, 0)) (rK_ BK269.out) hb); have n2_ := Aside0.mk (below_step (hS_ GE269.out) hb); have n3_ := Aside0.mk (hbox); have n4_ := Aside0.mk ((by rw [hg]; exact (below_size (hS_ GE269.out)) : w.heap.size ≤ gb276)); have n5_ := Aside0.mk ((by rw [hg]; exact (below_size (hS_ GE269.out)) : w.heap.size ≤ gb276)); have n6_ := Aside0.mk ((by rw [hg]; exact Nat.ne_of_lt (blk_lt (g := gb269) (o := .cells #[.string x270000_1, .int .i64 x270001_1] 53 (0, 0)) (rK_ BK269.out)) : gb269 ≠ gb276)); have n7_ := Aside0.mk ((by rw [hg]; exact Nat.ne_of_gt (blk_lt (g := gb269) (o := .cells #[.string x270000_1, .int .i64 x270001_1] 53 (0, 0)) (rK_ BK269.out)) : gb276 ≠ gb269)); clear HO_8; clear BK269; clear HB; have HO_8 := n0_; have BK269 := n1_; have HB := n2_; have BK276 := n3_; have GW276 := n4_; have GE276 := n5_; have NB269_276 := n6_; have NB276_269 := n7_; clear n0_ n1_ n2_ n3_ n4_ n5_ n6_ n7_; clear hb hbox hg; have hnb30 := NB276_269.out; have hnc30 := NB269_276.out; have hcz31_0 : w29.cell? ⟨gb276, 0, none⟩ = some (.string (⟨#[]⟩ : ByteArray)) := (blk_cell BK276.out 0).trans rfl; have hcz31_1 : w29.cell? ⟨gb276, 1, none⟩ = some (.int .i64 0) := (blk_cell BK276.out 1).trans rfl; have hfz31_0 := blk_frozen BK276.out 0; have hfz31_1 := blk_frozen BK276.out 1; have hcz32_0 : w29.cell? ⟨gb269, 0, none⟩ = some (.string x270000_1) := (blk_cell BK269.out 0).trans rfl; have hcz32_1 : w29.cell? ⟨gb269, 1, none⟩ = some (.int .i64 x270001_1) := (blk_cell BK269.out 1).trans rfl; have hfz32_0 := blk_frozen BK269.out 0; have hfz32_1 := blk_frozen BK269.out 1; have p22 : 0 ≤ (0 : Int) := (by omega); have q22 : 0 < t275.size := (by have : (0 : Int) < (t275.size : Int) := of_decide_eq_true (by first | (with_reducible assumption) | assumption); omega); have hx22 : ∀ h : 0 < t275.size, ((t275[0]'h).toNat : Int) = bt t275 0 := bt_at t275 0; clear p22; have qi22 : (0 < (t275.size : Int)) = True := eq_true (of_decide_eq_true (by first | (with_reducible assumption) | assumption)); replace q22 := eq_true q22; have p24 : 0 ≤ (1 : Int) := (by omega); have q24 : 1 < t275.size := (by have : (1 : Int) < (t275.size : Int) := of_decide_eq_true (by first | (with_reducible assumption) | assumption); omega); have hx24 : ∀ h : 1 < t275.size, ((t275[1]'h).toNat : Int) = bt t275 1 := bt_at t275 1; clear p24; have qi24 : (1 < (t275.size : Int)) = True := eq_true (of_decide_eq_true (by first | (with_reducible assumption) | assumption)); replace q24 := eq_true q24; have p26 : 0 ≤ (2 : Int) := (by omega); have q26 : 2 < t275.size := (by have : (2 : Int) < (t275.size : Int) := of_decide_eq_true (by first | (with_reducible assumption) | assumption); omega); have hx26 : ∀ h : 2 < t275.size, ((t275[2]'h).toNat : Int) = bt t275 2 := bt_at t275 2; clear p26; have qi26 : (2 < (t275.size : Int)) = True := eq_true (of_decide_eq_true (by first | (with_reducible assumption) | assumption)); replace q26 := eq_true q26) | ((with_reducible refine gate_dst (N := 60) rfl ?_); refine Kd.R_lit (Kd.int .i64) _ 3 ?hg (N := 60) ?hd (xs := ([wrap64 ((wrap64 (bt t275 0)) + (wrap64 ((Int.tmod (wrap64 (bt t275 1)) 16) * 256))), wrap64 ((wrap64 (Int.tdiv (wrap64 (bt t275 1)) 16)) + (wrap64 (16 * (wrap64 (bt t275 2)))))] : List Int)) (inner := [.int .i64 (wrap64 ((wrap64 (bt t275 0)) + (wrap64 ((Int.tmod (wrap64 (bt t275 1)) 16) * 256)))), .int .i64 (wrap64 ((wrap64 (Int.tdiv (wrap64 (bt t275 1)) 16)) + (wrap64 (16 * (wrap64 (bt t275 2))))))]) (ok := fun _ => True) (okp := fun _ => True) ?hr ?hp (fun _ hk => hk) trivial (Below.refl _ _) (Nat.le_refl _) (by simp) ?_; (case hd => rfl); (case hg => rfl); (case hr => first | (go_simp; done) | (go_simp; rfl)); (case hp => exact (Reps.one (show Kd.M (Kd.int .i64) _ _ _ (wrap64 ((wrap64 (bt t275 0)) + (wrap64 ((Int.tmod (wrap64 (bt t275 1)) 16) * 256)))) [.int .i64 (wrap64 ((wrap64 (bt t275 0)) + (wrap64 ((Int.tmod (wrap64 (bt t275 1)) 16) * 256))))] from rfl) (Reps.one (show Kd.M (Kd.int .i64) _ _ _ (wrap64 ((wrap64 (Int.tdiv (wrap64 (bt t275 1)) 16)) + (wrap64 (16 * (wrap64 (bt t275 2)))))) [.int .i64 (wrap64 ((wrap64 (Int.tdiv (wrap64 (bt t275 1)) 16)) + (wrap64 (16 * (wrap64 (bt t275 2))))))] from rfl) (Reps.none _ _)))); intro v278 w33 ho34 hb hg_ hnew_; clear hg_ hnew_; (first | rw [← Ny277.out] at ho34 | (simp only [Int.reduceToNat] at ho34; rw [← Ny277.out] at ho34)); have n0_ := Aside0.mk (Kd.R_elder' (by (with_reducible repeat (first | apply Kd.R_alloc | apply Kd.R_drewN | apply Kd.R_drew)); exact (Kd.R_mono (Kd.R_mono (Kd.R_far (Kd.R_far (Kd.R_far (Kd.R_far (Kd.R_types (Kd.R_types HO_8.out BK276.out (by decide)) BK269.out (by decide)) (fun _ hk => hk.1.2) (.string t273)) (fun _ hk => hk.1.2) (.int .i64 t274)) (fun _ hk => hk.2) _) (fun _ hk => hk.2) _) (fun _ h_ => h_.1)) (fun _ h_ => h_.1))) (Kd.R_base ho34) hb); have n1_ := Aside0.mk (Kd.R_lower (Kd.R_new' ho34 (Kd.R_lt (by (with_reducible repeat (first | apply Kd.R_alloc | apply Kd.R_drewN | apply Kd.R_drew)); exact (Kd.R_mono (Kd.R_mono (Kd.R_far (Kd.R_far (Kd.R_far (Kd.R_far (Kd.R_types (Kd.R_types HO_8.out BK276.out (by decide)) BK269.out (by decide)) (fun _ hk => hk.1.2) (.string t273)) (fun _ hk => hk.1.2) (.int .i64 t274)) (fun _ hk => hk.2) _) (fun _ hk => hk.2) _) (fun _ h_ => h_.1)) (fun _ h_ => h_.1))))) (below_size (by repeat (first | (with_reducible first | exact HB.out | apply below_alloc | apply pw_below_drewN | apply below_drew1 | refine below_set ?_ GE269.out | refine below_set ?_ GE276.out) | exact HB.out)))); have n2_ := Aside0.mk (blk_below (g := gb269) (o := .cells #[.string t273, .int .i64 t274] 53 (0, 0)) (by (with_reducible repeat (first | refine blk_drewN ?_ _ | refine blk_drew ?_ | refine blk_alloc ?_ _)); refine blk_put (cs := #[.string t273, .int .i64 x270001_1]) ?_ 1 _ rfl; (with_reducible repeat (first | refine blk_drewN ?_ _ | refine blk_drew ?_ | refine blk_alloc ?_ _)); refine blk_put (cs := #[.string x270000_1, .int .i64 x270001_1]) ?_ 0 _ rfl; (with_reducible repeat (first | refine blk_drewN ?_ _ | refine blk_drew ?_ | refine blk_alloc ?_ _)); refine blk_far ?_ NB269_276.out _; (with_reducible repeat (first | refine blk_drewN ?_ _ | refine blk_drew ?_ | refine blk_alloc ?_ _)); refine blk_far ?_ NB269_276.out _; exact rK_ BK269.out) hb); have n3_ := Aside0.mk (blk_below (g := gb276) (o := .cells #[.string t273, .int .i64 t274] 53 (0, 0)) (by (with_reducible repeat (first | refine blk_drewN ?_ _ | refine blk_drew ?_ | refine blk_alloc ?_ _)); refine blk_far ?_ NB276_269.out _; (with_reducible repeat (first | refine blk_drewN ?_ _ | refine blk_drew ?_ | refine blk_alloc ?_ _)); refine blk_far ?_ NB276_269.out _; (with_reducible repeat (first | refine blk_drewN ?_ _ | refine blk_drew ?_ | refine blk_alloc ?_ _)); refine blk_put (cs := #[.string t273, .int .i64 0]) ?_ 1 _ rfl; (with_reducible repeat (first | refine blk_drewN ?_ _ | refine blk_drew ?_ | refine blk_alloc ?_ _)); refine blk_put (cs := #[.string (⟨#[]⟩ : ByteArray), .int .i64 0]) ?_ 0 _ rfl; exact rK_ BK276.out) hb); have n4_ := Aside0.mk (below_step (by repeat (first | (with_reducible first | exact HB.out | apply below_alloc | apply pw_below_drewN | apply below_drew1 | refine below_set ?_ GE269.out | refine below_set ?_ GE276.out) | exact HB.out)) hb); clear HO_8; clear BK269; clear BK276; clear HB; have HO_8 := n0_; have HO279 := n1_; have BK269 := n2_; have BK276 := n3_; have HB := n4_; clear n0_ n1_ n2_ n3_ n4_; clear hb ho34; obtain ⟨Ao35, co35, eo35⟩ := Kd.R_slice HO279.out; subst eo35)))
            go_loopg [9, 62] kj16 (fun kq v9 v62 w' => ∃ (x8_3 : List Int) (x9_3 : Int) (x62_3 : Int), v9 = .int .i64 x9_3 ∧ v62 = .int .i64 x62_3 ∧ Aside0 (impl_Uniform.l1 kq x8_3 x9_3 x10_1 y277 (y277.length : Int) x62_3 t273 t274 = some r) ∧ Aside0 (kq ≤ kj16) ∧ Aside0 (Kd.R (Kd.int .i64) 3 w' w.heap.size (fun k_ => some k_ ≠ ((.slice Ao35 y277.length co35) : Value).ownBlock) v271 x8_3) ∧ Aside0 (Kd.R (Kd.int .i64) 3 w' w.heap.size (fun k_ => some k_ ≠ (v271 : Value).ownBlock) (.slice Ao35 y277.length co35) y277) ∧ Aside0 (w'.heap[gb269]? = some (.cells #[.string t273, .int .i64 t274] 53 (0, 0))) ∧ Aside0 (w'.heap[gb276]? = some (.cells #[.string t273, .int .i64 t274] 53 (0, 0))) ∧ Aside0 (Below w.heap.size w w'))
            case atStart => exact ⟨(x8_1), (x9_1), (0), (by first | rfl | (simp; done) | (simp [*]; done)), (by first | rfl | (simp; done) | (simp [*]; done)), H', ⟨Nat.le_refl _⟩, ⟨by (with_reducible repeat (first | apply Kd.R_alloc | apply Kd.R_drewN | apply Kd.R_drew)); exact Kd.R_mono HO_8.out (fun _ hk => hk.2)⟩, ⟨by (with_reducible repeat (first | apply Kd.R_alloc | apply Kd.R_drewN | apply Kd.R_drew)); exact Kd.R_mono HO279.out (fun _ hk => hk.2)⟩, ⟨by (with_reducible repeat (first | refine blk_drewN ?_ _ | refine blk_drew ?_ | refine blk_alloc ?_ _)); exact BK269.out⟩, ⟨by (with_reducible repeat (first | refine blk_drewN ?_ _ | refine blk_drew ?_ | refine blk_alloc ?_ _)); exact BK276.out⟩, ⟨by repeat (first | (with_reducible first | exact HB.out | apply below_alloc | apply pw_below_drewN | apply below_drew1 | refine below_set ?_ GE269.out | refine below_set ?_ GE276.out) | exact HB.out)⟩⟩
            case round =>
             clear H'
             try clear c1
             try clear c2
             try clear p2
             try clear q2
             try clear hx2
             try clear qi2
             try clear c3
             try clear c5
             try clear c5b0
             try clear c5b1
             try clear c5b2
             try clear p6
             try clear c7
             try clear c7b0
             try clear c7b1
             try clear c7b2
             try clear c9
             try clear c9b0
             try clear c9b1
             try clear c14
             try clear c18
             try clear c18b0
             try clear c19
             try clear c21
             try clear c21b0
             try clear c21b1
             try clear p22
             try clear q22
             try clear hx22
             try clear qi22
             try clear c23
             try clear c23b0
             try clear c23b1
             try clear p24
             try clear q24
             try clear hx24
             try clear qi24
             try clear c25
             try clear c25b0
             try clear c25b1
             try clear p26
             try clear q26
             try clear hx26
             try clear qi26
             try clear c30
             try clear hcz14_0
             try clear hcz14_1
             try clear hcz27_0
             try clear hcz27_1
             try clear hcz31_0
             try clear hcz31_1
             try clear hcz32_0
             try clear hcz32_1
             try clear hfz14_0
             try clear hfz14_1
             try clear hfz27_0
             try clear hfz27_1
             try clear hfz31_0
             try clear hfz31_1
             try clear hfz32_0
             try clear hfz32_1
             try clear p2
             try clear p22
             try clear p24
             try clear p26
             try clear q22
             try clear q24
             try clear q26
             obtain ⟨x8_3, x9_3, x62_3, rfl, rfl, HA, HK3, HO_8, HO_60, BK269, BK276, HB⟩ := hrel
             cases gk with
             | zero => exact absurd HA.out (by simp [impl_Uniform.l1])
             | succ k3 =>
              have H := HA.out
              clear HA
              simp only [impl_Uniform.l1] at H
              by_cases c36 : x62_3 < (y277.length : Int)
              ·rw [if_pos c36] at H
               have c36b0 : decide (x62_3 < (y277.length : Int)) = true := decide_eq_true c36
               clear c36
               by_cases c37 : 0 ≤ x62_3
               ·rw [if_pos c37] at H
                have c37b0 : decide (0 ≤ x62_3) = true := decide_eq_true c37
                clear c37
                by_cases c38 : x62_3 < (y277.length : Int)
                ·rw [if_pos c38] at H
                 have c38b0 : decide (x62_3 < (y277.length : Int)) = true := decide_eq_true c38
                 clear c38
                 by_cases c39 : (rd y277 x62_3) < 3329
                 ·rw [if_pos c39] at H
                  have c39b0 : decide ((rd y277 x62_3) < 3329) = true := decide_eq_true c39
                  clear c39
                  by_cases c40 : x9_3 < 256
                  ·rw [if_pos c40] at H
                   have c40b0 : decide (x9_3 < 256) = true := decide_eq_true c40
                   clear c40
                   by_cases c41 : 0 ≤ x9_3
                   ·rw [if_pos c41] at H
                    have c41b0 : decide (0 ≤ x9_3) = true := decide_eq_true c41
                    clear c41
                    by_cases c42 : x9_3 < (x8_3.length : Int)
                    ·rw [if_pos c42] at H
                     have c42b0 : decide (x9_3 < (x8_3.length : Int)) = true := decide_eq_true c42
                     clear c42
                     obtain ⟨y281, hy281⟩ : ∃ y_ : List Int, y_ = (x8_3.set (x9_3 : Int).toNat (rd y277 x62_3)) := ⟨_, rfl⟩
                     replace H : (impl_Uniform.l1 k3 y281 (wrap64 (x9_3 + 1)) x10_1 y277 (y277.length : Int) (wrap64 (x62_3 + 1)) t273 t274) = some r := by first | (rw [hy281]; with_reducible exact H) | (have H2_ := (Option.bind_some _ _).symm.trans H; rw [hy281]; with_reducible exact H2_) | (have H2_ := (Option.bind_some _ _).symm.trans H; with_reducible exact H2_) | with_reducible exact H | (rw [hy281]; exact H) | exact H
                     have Ny281 := Aside0.mk hy281
                     clear hy281
                     have H' := Aside0.mk H
                     clear H
                     have p280 : 0 ≤ (x62_3 : Int) := of_decide_eq_true (by first | (with_reducible assumption) | assumption)
                     have q280 : x62_3 < (y277.length : Int) := of_decide_eq_true (by first | (with_reducible assumption) | assumption)
                     obtain ⟨ad280, e280, hx280_0⟩ := Kd.at_int (Kd.R_reads' HO_60.out).2.2 x62_3 p280 q280
                     cases e280
                     replace p280 := eq_true p280
                     replace q280 := eq_true q280
                     have p43 : 0 ≤ (x9_3 : Int) := of_decide_eq_true (by first | (with_reducible assumption) | assumption)
                     have q43 : (x9_3 : Int) < ((x8_3.length : Int) : Int) := of_decide_eq_true (by first | (with_reducible assumption) | assumption)
                     obtain ⟨go43, co43, eo43, gb43, gl43, cl43, HG43⟩ := Kd.R_form HO_8.out (by omega)
                     (first | cases eo43 | (injection eo43 with ea_ en_ ec_; (first | subst ea_ | (injection ea_ with ea_; subst ea_)); subst ec_; clear en_))
                     have GB43 := Aside0.mk gb43
                     have GG43 := Aside0.mk HG43
                     clear gb43 gl43 HG43
                     obtain ⟨hx43_0, hf43_0⟩ := Kd.R_celln 0 HO_8.out (x9_3 : Int) p43 q43
                     replace p43 := eq_true p43
                     replace q43 := eq_true q43
                     have HP44 := Kd.R_putg HO_8.out (x9_3 : Int) (rd y277 x62_3)
                     go_wp2_with (first | ((with_reducible refine gate_store (t := 3) (p := 75) rfl ?_); (try (rw [drewN_self wr]; generalize hq_ : World.drewN wr _ = wr; have n0_ := Aside0.mk (Kd.R_at hq_ HO_8.out); have n1_ := Aside0.mk (Kd.R_at hq_ HO_60.out); have n2_ := Aside0.mk (blk_at hq_ BK269.out); have n3_ := Aside0.mk (blk_at hq_ BK276.out); have n4_ := Aside0.mk (below_at hq_ HB.out); clear hq_ HO_8 HO_60 BK269 BK276 HB; have HO_8 := n0_; have HO_60 := n1_; have BK269 := n2_; have BK276 := n3_; have HB := n4_; clear n0_ n1_ n2_ n3_ n4_; (try (have HP44 := Kd.R_putg HO_8.out (x9_3 : Int) (rd y277 x62_3))))); refine store_event (t := 3) (p := 75) (v := ?vo_w45) (w1 := (wr.setCell ⟨go43, (x9_3 : Int).toNat, none⟩ (.int .i64 (rd y277 x62_3)))) ?hg ?ho ?hn ?hr ?_; (case ho => rfl); (case hg => rfl); (case hn => rfl); (case hr => first | (go_simp; done) | (go_simp; rfl)); intro w45 hw; have hg : wr.grownBy w45 (some go43) := (by rw [hw]; exact HP44.2); have hp_ : Kd.R (Kd.int .i64) 3 w45 w.heap.size (fun k_ => some k_ ≠ (.slice (some ad280) y277.length co35 : Value).ownBlock) (.slice (some ⟨go43, 0, none⟩) x8_3.length co43) y281 := (by rw [hw, Ny281.out]; exact HP44.1); clear HP44; have n0_ := Aside0.mk (hp_); have n1_ := Aside0.mk (Kd.R_after (v := (.slice (some ⟨go43, 0, none⟩) x8_3.length co43)) (v1 := (.slice (some ⟨go43, 0, none⟩) x8_3.length co43)) (ok := (fun _ => True)) (by (with_reducible repeat (first | apply Kd.R_alloc | apply Kd.R_drewN | apply Kd.R_drew)); exact Kd.R_mono HO_60.out (fun _ hk => ⟨trivial, hk⟩)) hg (.inl rfl)); have n2_ := Aside0.mk (blk_grown (g := gb269) (o := .cells #[.string t273, .int .i64 t274] 53 (0, 0)) (rK_ BK269.out) hg (Kd.R_ne HO_8.out BK269.out (by decide))); have n3_ := Aside0.mk (blk_grown (g := gb276) (o := .cells #[.string t273, .int .i64 t274] 53 (0, 0)) (rK_ BK276.out) hg (Kd.R_ne HO_8.out BK276.out (by decide))); have n4_ := Aside0.mk ((by rw [hw]; exact below_set (HB.out) GB43.out : Below w.heap.size w w45)); clear HO_8; clear HO_60; clear BK269; clear BK276; clear HB; have HO_8 := n0_; have HO_60 := n1_; have BK269 := n2_; have BK276 := n3_; have HB := n4_; clear n0_ n1_ n2_ n3_ n4_; clear hg hw hp_))
                     repeat (go_quiet (first | ((with_reducible refine gate_store (t := 3) (p := 75) rfl ?_); (try (rw [drewN_self wr]; generalize hq_ : World.drewN wr _ = wr; have n0_ := Aside0.mk (Kd.R_at hq_ HO_8.out); have n1_ := Aside0.mk (Kd.R_at hq_ HO_60.out); have n2_ := Aside0.mk (blk_at hq_ BK269.out); have n3_ := Aside0.mk (blk_at hq_ BK276.out); have n4_ := Aside0.mk (below_at hq_ HB.out); clear hq_ HO_8 HO_60 BK269 BK276 HB; have HO_8 := n0_; have HO_60 := n1_; have BK269 := n2_; have BK276 := n3_; have HB := n4_; clear n0_ n1_ n2_ n3_ n4_; (try (have HP44 := Kd.R_putg HO_8.out (x9_3 : Int) (rd y277 x62_3))))); refine store_event (t := 3) (p := 75) (v := ?vo_w45) (w1 := (wr.setCell ⟨go43, (x9_3 : Int).toNat, none⟩ (.int .i64 (rd y277 x62_3)))) ?hg ?ho ?hn ?hr ?_; (case ho => rfl); (case hg => rfl); (case hn => rfl); (case hr => first | (go_simp; done) | (go_simp; rfl)); intro w45 hw; have hg : wr.grownBy w45 (some go43) := (by rw [hw]; exact HP44.2); have hp_ : Kd.R (Kd.int .i64) 3 w45 w.heap.size (fun k_ => some k_ ≠ (.slice (some ad280) y277.length co35 : Value).ownBlock) (.slice (some ⟨go43, 0, none⟩) x8_3.length co43) y281 := (by rw [hw, Ny281.out]; exact HP44.1); clear HP44; have n0_ := Aside0.mk (hp_); have n1_ := Aside0.mk (Kd.R_after (v := (.slice (some ⟨go43, 0, none⟩) x8_3.length co43)) (v1 := (.slice (some ⟨go43, 0, none⟩) x8_3.length co43)) (ok := (fun _ => True)) (by (with_reducible repeat (first | apply Kd.R_alloc | apply Kd.R_drewN | apply Kd.R_drew)); exact Kd.R_mono HO_60.out (fun _ hk => ⟨trivial, hk⟩)) hg (.inl rfl)); have n2_ := Aside0.mk (blk_grown (g := gb269) (o := .cells #[.string t273, .int .i64 t274] 53 (0, 0)) (rK_ BK269.out) hg (Kd.R_ne HO_8.out BK269.out (by decide))); have n3_ := Aside0.mk (blk_grown (g := gb276) (o := .cells #[.string t273, .int .i64 t274] 53 (0, 0)) (rK_ BK276.out) hg (Kd.R_ne HO_8.out BK276.out (by decide))); have n4_ := Aside0.mk ((by rw [hw]; exact below_set (HB.out) GB43.out : Below w.heap.size w w45)); clear HO_8; clear HO_60; clear BK269; clear BK276; clear HB; have HO_8 := n0_; have HO_60 := n1_; have BK269 := n2_; have BK276 := n3_; have HB := n4_; clear n0_ n1_ n2_ n3_ n4_; clear hg hw hp_)); try go_wp2_with (first | ((with_reducible refine gate_store (t := 3) (p := 75) rfl ?_); (try (rw [drewN_self wr]; generalize hq_ : World.drewN wr _ = wr; have n0_ := Aside0.mk (Kd.R_at hq_ HO_8.out); have n1_ := Aside0.mk (Kd.R_at hq_ HO_60.out); have n2_ := Aside0.mk (blk_at hq_ BK269.out); have n3_ := Aside0.mk (blk_at hq_ BK276.out); have n4_ := Aside0.mk (below_at hq_ HB.out); clear hq_ HO_8 HO_60 BK269 BK276 HB; have HO_8 := n0_; have HO_60 := n1_; have BK269 := n2_; have BK276 := n3_; have HB := n4_; clear n0_ n1_ n2_ n3_ n4_; (try (have HP44 := Kd.R_putg HO_8.out (x9_3 : Int) (rd y277 x62_3))))); refine store_event (t := 3) (p := 75) (v := ?vo_w45) (w1 := (wr.setCell ⟨go43, (x9_3 : Int).toNat, none⟩ (.int .i64 (rd y277 x62_3)))) ?hg ?ho ?hn ?hr ?_; (case ho => rfl); (case hg => rfl); (case hn => rfl); (case hr => first | (go_simp; done) | (go_simp; rfl)); intro w45 hw; have hg : wr.grownBy w45 (some go43) := (by rw [hw]; exact HP44.2); have hp_ : Kd.R (Kd.int .i64) 3 w45 w.heap.size (fun k_ => some k_ ≠ (.slice (some ad280) y277.length co35 : Value).ownBlock) (.slice (some ⟨go43, 0, none⟩) x8_3.length co43) y281 := (by rw [hw, Ny281.out]; exact HP44.1); clear HP44; have n0_ := Aside0.mk (hp_); have n1_ := Aside0.mk (Kd.R_after (v := (.slice (some ⟨go43, 0, none⟩) x8_3.length co43)) (v1 := (.slice (some ⟨go43, 0, none⟩) x8_3.length co43)) (ok := (fun _ => True)) (by (with_reducible repeat (first | apply Kd.R_alloc | apply Kd.R_drewN | apply Kd.R_drew)); exact Kd.R_mono HO_60.out (fun _ hk => ⟨trivial, hk⟩)) hg (.inl rfl)); have n2_ := Aside0.mk (blk_grown (g := gb269) (o := .cells #[.string t273, .int .i64 t274] 53 (0, 0)) (rK_ BK269.out) hg (Kd.R_ne HO_8.out BK269.out (by decide))); have n3_ := Aside0.mk (blk_grown (g := gb276) (o := .cells #[.string t273, .int .i64 t274] 53 (0, 0)) (rK_ BK276.out) hg (Kd.R_ne HO_8.out BK276.out (by decide))); have n4_ := Aside0.mk ((by rw [hw]; exact below_set (HB.out) GB43.out : Below w.heap.size w w45)); clear HO_8; clear HO_60; clear BK269; clear BK276; clear HB; have HO_8 := n0_; have HO_60 := n1_; have BK269 := n2_; have BK276 := n3_; have HB := n4_; clear n0_ n1_ n2_ n3_ n4_; clear hg hw hp_)))
                     go_roundg k3
                     case measure => have := HK1.out; have := HJ16.out; have := HK3.out; omega
                     case rel => exact ⟨(y281), (wrap64 (x9_3 + 1)), (wrap64 (x62_3 + 1)), (by first | rfl | (simp; done) | (simp [*]; done)), (by first | rfl | (simp; done) | (simp [*]; done)), H', ⟨by have := HK1.out; have := HJ16.out; have := HK3.out; omega⟩, ⟨rR_ HO_8.out⟩, ⟨by (with_reducible repeat (first | apply Kd.R_alloc | apply Kd.R_drewN | apply Kd.R_drew)); exact Kd.R_mono HO_60.out (fun _ hk => hk.2)⟩, ⟨by (with_reducible repeat (first | refine blk_drewN ?_ _ | refine blk_drew ?_ | refine blk_alloc ?_ _)); exact BK269.out⟩, ⟨by (with_reducible repeat (first | refine blk_drewN ?_ _ | refine blk_drew ?_ | refine blk_alloc ?_ _)); exact BK276.out⟩, ⟨by repeat (first | (with_reducible first | exact HB.out | apply below_alloc | apply pw_below_drewN | apply below_drew1 | refine below_set ?_ GE269.out | refine below_set ?_ GE276.out) | exact HB.out)⟩⟩
                    ·rw [if_neg c42] at H
                     exact absurd H (by simp)
                   ·rw [if_neg c41] at H
                    exact absurd H (by simp)
                  ·rw [if_neg c40] at H
                   have c40b0 : decide (x9_3 < 256) = false := decide_eq_false c40
                   clear c40
                   have H' := Aside0.mk H
                   clear H
                   have p280 : 0 ≤ (x62_3 : Int) := of_decide_eq_true (by first | (with_reducible assumption) | assumption)
                   have q280 : x62_3 < (y277.length : Int) := of_decide_eq_true (by first | (with_reducible assumption) | assumption)
                   obtain ⟨ad280, e280, hx280_0⟩ := Kd.at_int (Kd.R_reads' HO_60.out).2.2 x62_3 p280 q280
                   cases e280
                   replace p280 := eq_true p280
                   replace q280 := eq_true q280
                   go_wp2
                   repeat (go_quiet (fail); try go_wp2)
                   go_roundg k3
                   case measure => have := HK1.out; have := HJ16.out; have := HK3.out; omega
                   case rel => exact ⟨(x8_3), (x9_3), (wrap64 (x62_3 + 1)), (by first | rfl | (simp; done) | (simp [*]; done)), (by first | rfl | (simp; done) | (simp [*]; done)), H', ⟨by have := HK1.out; have := HJ16.out; have := HK3.out; omega⟩, ⟨rR_ HO_8.out⟩, ⟨rR_ HO_60.out⟩, ⟨by (with_reducible repeat (first | refine blk_drewN ?_ _ | refine blk_drew ?_ | refine blk_alloc ?_ _)); exact BK269.out⟩, ⟨by (with_reducible repeat (first | refine blk_drewN ?_ _ | refine blk_drew ?_ | refine blk_alloc ?_ _)); exact BK276.out⟩, ⟨by repeat (first | (with_reducible first | exact HB.out | apply below_alloc | apply pw_below_drewN | apply below_drew1 | refine below_set ?_ GE269.out | refine below_set ?_ GE276.out) | exact HB.out)⟩⟩
                 ·rw [if_neg c39] at H
                  have c39b0 : decide ((rd y277 x62_3) < 3329) = false := decide_eq_false c39
                  clear c39
                  have H' := Aside0.mk H
                  clear H
                  have p280 : 0 ≤ (x62_3 : Int) := of_decide_eq_true (by first | (with_reducible assumption) | assumption)
                  have q280 : x62_3 < (y277.length : Int) := of_decide_eq_true (by first | (with_reducible assumption) | assumption)
                  obtain ⟨ad280, e280, hx280_0⟩ := Kd.at_int (Kd.R_reads' HO_60.out).2.2 x62_3 p280 q280
                  cases e280
                  replace p280 := eq_true p280
                  replace q280 := eq_true q280
                  go_wp2
                  repeat (go_quiet (fail); try go_wp2)
                  go_roundg k3
                  case measure => have := HK1.out; have := HJ16.out; have := HK3.out; omega
                  case rel => exact ⟨(x8_3), (x9_3), (wrap64 (x62_3 + 1)), (by first | rfl | (simp; done) | (simp [*]; done)), (by first | rfl | (simp; done) | (simp [*]; done)), H', ⟨by have := HK1.out; have := HJ16.out; have := HK3.out; omega⟩, ⟨rR_ HO_8.out⟩, ⟨rR_ HO_60.out⟩, ⟨by (with_reducible repeat (first | refine blk_drewN ?_ _ | refine blk_drew ?_ | refine blk_alloc ?_ _)); exact BK269.out⟩, ⟨by (with_reducible repeat (first | refine blk_drewN ?_ _ | refine blk_drew ?_ | refine blk_alloc ?_ _)); exact BK276.out⟩, ⟨by repeat (first | (with_reducible first | exact HB.out | apply below_alloc | apply pw_below_drewN | apply below_drew1 | refine below_set ?_ GE269.out | refine below_set ?_ GE276.out) | exact HB.out)⟩⟩
                ·rw [if_neg c38] at H
                 exact absurd H (by simp)
               ·rw [if_neg c37] at H
                exact absurd H (by simp)
              ·rw [if_neg c36] at H
               have c36b0 : decide (x62_3 < (y277.length : Int)) = false := decide_eq_false c36
               clear c36
               have H' := Aside0.mk H
               clear H
               go_wp2
               repeat (go_quiet (fail); try go_wp2)
               go_roundg k3
               case measure => have := HK1.out; have := HJ16.out; have := HK3.out; omega
               case rel => exact ⟨(x8_3), (x9_3), (wrap64 (x10_1 + 1)), (t273), (t274), (by first | rfl | (simp; done) | (simp [*]; done)), (by first | rfl | (simp; done) | (simp [*]; done)), H', ⟨by have := HK1.out; have := HJ16.out; have := HK3.out; omega⟩, ⟨by (with_reducible repeat (first | apply Kd.R_alloc | apply Kd.R_drewN | apply Kd.R_drew)); exact Kd.R_mono HO_8.out (fun _ hk => trivial)⟩, ⟨by (with_reducible repeat (first | refine blk_drewN ?_ _ | refine blk_drew ?_ | refine blk_alloc ?_ _)); exact BK269.out⟩, ⟨by repeat (first | (with_reducible first | exact HB.out | apply below_alloc | apply pw_below_drewN | apply below_drew1 | refine below_set ?_ GE269.out | refine below_set ?_ GE276.out) | exact HB.out)⟩⟩
           ·rw [if_neg c25] at H
            exact absurd H (by simp)
          ·rw [if_neg c23] at H
           exact absurd H (by simp)
         ·rw [if_neg c21] at H
          exact absurd H (by simp)
        ·replace c19 := Bool.eq_false_iff.mpr c19
         subst c19
         have H1 : (some x8_1) = some r := by rw [if_neg (show ¬ (false = true) by decide)] at H; exact H
         clear H
         have H := H1
         clear H1
         obtain rfl := Option.some.inj H
         go_wp2
         repeat (go_quiet (fail); try go_wp2)
         go_ret
         exact ⟨_, by first | rfl | (simp [errW_none, errW_some] <;> rfl) | (simp [*, errW_none, errW_some] <;> rfl), rR_ HO_8.out, hS_ GE269.out⟩
   ·rw [if_neg c9] at H
    exact absurd H (by simp)
  ·rw [if_neg c7] at H
   exact absurd H (by simp)
 ·rw [if_neg c5] at H
  exact absurd H (by simp)

end Go.Proofs.Ytnckhligcdieaaa.P
