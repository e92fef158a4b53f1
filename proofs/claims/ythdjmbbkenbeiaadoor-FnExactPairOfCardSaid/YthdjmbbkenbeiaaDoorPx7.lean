-- printed texts of this session, regrouped
import Derived.Test.YthdjmbbkenbeiaaDoorMWC
import Derived.Test.YthdjmbbkenbeiaaDoorMWA
import Derived.Test.YthdjmbbkenbeiaaDoorMW7
import Derived.Test.YthdjmbbkenbeiaaDoorMW8
import Derived.Test.YthdjmbbkenbeiaaDoorMW6
import Derived.Test.YthdjmbbkenbeiaaDoorHB6
import Derived.Test.YthdjmbbkenbeiaaDoorPx0
import Derived.Test.YthdjmbbkenbeiaaDoorPx1
import Derived.Test.YthdjmbbkenbeiaaDoorPx2
import Derived.Test.YthdjmbbkenbeiaaDoorPx6
namespace Go.Proofs.YthdjmbbkenbeiaaDoor.P
open Go.RowKit Go.Proofs.YthdjmbbkenbeiaaDoorW.PrintWords Go.Proofs.YthdjmbbkenbeiaaDoorW.PrintLast Go.Proofs.YthdjmbbkenbeiaaDoorW.PrintMore
attribute [local go_sem] max2_int min2_int max_two min_two max_three min_three max_four min_four   -- for this text's walks alone
set_option linter.unusedVariables false
set_option linter.unusedSimpArgs false
set_option maxHeartbeats 8000000
set_option maxRecDepth 100000

/-! ### spec_Uniform: function 24 -/
mutual
def spec_Uniform.l0 : Nat → List Int → ByteArray → Int → ByteArray → Int → Option (List Int)
 | 0, _, _, _, _, _ => none
 | k + 1, x7, x9, x10, x284000, x284001 => if x10 < 4000 then (spec_Uniform.j1 k x7 x9 x10 (decide ((x7.length : Int) < 256)) x284000 x284001) else (spec_Uniform.j1 k x7 x9 x10 false x284000 x284001)
def spec_Uniform.j1 : Nat → List Int → ByteArray → Int → Bool → ByteArray → Int → Option (List Int)
 | 0, _, _, _, _, _, _ => none
 | k + 1, x7, x9, x10, x31, x284000, x284001 => if x31 = true then (if (wrap64 ((Int.tmod x10 56) * 3)) = 0 then ((spec_StreamTake.f k x284000 x284001 168).bind fun bt284 => (spec_Uniform.j2 k x7 bt284.2.2 x10 (wrap64 ((Int.tmod x10 56) * 3)) bt284.1 bt284.2.1)) else (spec_Uniform.j2 k x7 x9 x10 (wrap64 ((Int.tmod x10 56) * 3)) x284000 x284001)) else (spec_Uniform.l1 k x7)
def spec_Uniform.j2 : Nat → List Int → ByteArray → Int → Int → ByteArray → Int → Option (List Int)
 | 0, _, _, _, _, _, _ => none
 | k + 1, x7, x9, x10, x11, x284000, x284001 => if 0 ≤ x11 then (if x11 < (x9.size : Int) then (if 0 ≤ (wrap64 (x11 + 1)) then (if (wrap64 (x11 + 1)) < (x9.size : Int) then (if 0 ≤ (wrap64 (x11 + 2)) then (if (wrap64 (x11 + 2)) < (x9.size : Int) then (if (wrap64 ((wrap64 (bt x9 x11)) + (wrap64 (256 * (Int.tmod (wrap64 (bt x9 (wrap64 (x11 + 1)))) 16))))) < 3329 then (if x7.length < 17592186044416 then ((some (x7 ++ [wrap64 ((wrap64 (bt x9 x11)) + (wrap64 (256 * (Int.tmod (wrap64 (bt x9 (wrap64 (x11 + 1)))) 16))))] : List Int)).bind fun y288 => (if (wrap64 ((wrap64 (Int.tdiv (wrap64 (bt x9 (wrap64 (x11 + 1)))) 16)) + (wrap64 (16 * (wrap64 (bt x9 (wrap64 (x11 + 2)))))))) < 3329 then (if (y288.length : Int) < 256 then (if y288.length < 17592186044416 then (spec_Uniform.l0 k (y288 ++ [wrap64 ((wrap64 (Int.tdiv (wrap64 (bt x9 (wrap64 (x11 + 1)))) 16)) + (wrap64 (16 * (wrap64 (bt x9 (wrap64 (x11 + 2)))))))]) x9 (wrap64 (x10 + 1)) x284000 x284001) else (none)) else (spec_Uniform.l0 k y288 x9 (wrap64 (x10 + 1)) x284000 x284001)) else (spec_Uniform.l0 k y288 x9 (wrap64 (x10 + 1)) x284000 x284001))) else (none)) else (if (wrap64 ((wrap64 (Int.tdiv (wrap64 (bt x9 (wrap64 (x11 + 1)))) 16)) + (wrap64 (16 * (wrap64 (bt x9 (wrap64 (x11 + 2)))))))) < 3329 then (if (x7.length : Int) < 256 then (if x7.length < 17592186044416 then (spec_Uniform.l0 k (x7 ++ [wrap64 ((wrap64 (Int.tdiv (wrap64 (bt x9 (wrap64 (x11 + 1)))) 16)) + (wrap64 (16 * (wrap64 (bt x9 (wrap64 (x11 + 2)))))))]) x9 (wrap64 (x10 + 1)) x284000 x284001) else (none)) else (spec_Uniform.l0 k x7 x9 (wrap64 (x10 + 1)) x284000 x284001)) else (spec_Uniform.l0 k x7 x9 (wrap64 (x10 + 1)) x284000 x284001))) else (none)) else (none)) else (none)) else (none)) else (none)) else (none)
def spec_Uniform.l1 : Nat → List Int → Option (List Int)
 | 0, _ => none
 | k + 1, x7 => if (x7.length : Int) < 256 then (if x7.length < 17592186044416 then (spec_Uniform.l1 k (x7 ++ [0])) else (none)) else (some x7)
end
def spec_Uniform.f (k : Nat) (a0 : ByteArray) (a1 : Int) (a2 : Int) : Option (List Int) := (spec_l06Byte.f a1).bind fun t279 => (if a0.size + t279.size ≤ 9223372036854775807 then ((spec_l06Byte.f a2).bind fun t280 => (if (a0 ++ t279).size + t280.size ≤ 9223372036854775807 then ((spec_StreamNew.f k ((a0 ++ t279) ++ t280)).bind fun bt281 => (spec_Uniform.l0 k (([] : List Int)) (⟨#[]⟩ : ByteArray) 0 bt281.1 bt281.2)) else (none))) else (none))
theorem spec_Uniform.mono_l : ∀ k, (∀ y0 y1 y2 y3 y4, LeO (spec_Uniform.l0 k y0 y1 y2 y3 y4) (spec_Uniform.l0 (k + 1) y0 y1 y2 y3 y4)) ∧ (∀ y0 y1 y2 y3 y4 y5, LeO (spec_Uniform.j1 k y0 y1 y2 y3 y4 y5) (spec_Uniform.j1 (k + 1) y0 y1 y2 y3 y4 y5)) ∧ (∀ y0 y1 y2 y3 y4 y5, LeO (spec_Uniform.j2 k y0 y1 y2 y3 y4 y5) (spec_Uniform.j2 (k + 1) y0 y1 y2 y3 y4 y5)) ∧ (∀ y0, LeO (spec_Uniform.l1 k y0) (spec_Uniform.l1 (k + 1) y0))
 | 0 => ⟨fun _ _ _ _ _ r h => by simp [spec_Uniform.l0] at h, fun _ _ _ _ _ _ r h => by simp [spec_Uniform.j1] at h, fun _ _ _ _ _ _ r h => by simp [spec_Uniform.j2] at h, fun _ r h => by simp [spec_Uniform.l1] at h⟩
 | k + 1 => by
  obtain ⟨ih0, ih1, ih2, ih3⟩ := spec_Uniform.mono_l k
  refine ⟨?_, ?_, ?_, ?_⟩ <;> (intros; (first | unfold spec_Uniform.l0 | unfold spec_Uniform.j1 | unfold spec_Uniform.j2 | unfold spec_Uniform.l1); exact o6_ ih0 ih1 ih2 ih3 spec_StreamNew.mono spec_StreamTake.mono)
theorem spec_Uniform.mono : ∀ a0 a1 a2 k, LeO (spec_Uniform.f k a0 a1 a2) (spec_Uniform.f (k + 1) a0 a1 a2) := by
 intro a0 a1 a2 k
 obtain ⟨ih0, ih1, ih2, ih3⟩ := spec_Uniform.mono_l k
 unfold spec_Uniform.f
 exact o6_ ih0 ih1 ih2 ih3 spec_StreamNew.mono spec_StreamTake.mono
theorem spec_Uniform.calls (k : Nat) (a0 : ByteArray) (a1 : Int) (a2 : Int) (r : List Int) (w : World) (h : spec_Uniform.f k a0 a1 a2 = some r) :
  Calls Tryd.prog 24 #[.string a0, .int .i64 a1, .int .i64 a2] w fun e w' => ∃ v0_ : Value, e = .returned (v0_) ∧ Kd.R (Kd.int .i64) 3 w' w.heap.size (fun _ => True) v0_ r ∧ Below w.heap.size w w' := by
 have hu69 := Tryd.underlying69
 have HB := Aside0.mk (Below.refl w.heap.size w)
 delta spec_Uniform.f at h
 have H := h
 clear h
 obtain ⟨y276, hy276⟩ : ∃ y_ : List Int, y_ = (([] : List Int)) := ⟨_, rfl⟩
 first | replace H := yb_ hy276 H | rw [← hy276] at H
 have Ny276 := Aside0.mk hy276
 clear hy276
 obtain ⟨t279, A4, H⟩ := bN_ H
 obtain ⟨c5, H⟩ := iN_ H
 have c5b0 := eq_true c5
 have c5b1 := decide_eq_true c5
 try have c5b2 : (9223372036854775807 < a0.size + t279.size) = False := eq_false (Nat.not_lt.2 c5)
 obtain ⟨t280, A6, H⟩ := bN_ H
 obtain ⟨c7, H⟩ := iN_ H
 have c7b0 := eq_true c7
 have c7b1 := decide_eq_true c7
 try have c7b2 : (9223372036854775807 < (a0 ++ t279).size + t280.size) = False := eq_false (Nat.not_lt.2 c7)
 try (have c7b9 : (9223372036854775807 < (a0 ++ t279).size + t280.size) = False := c7b2; simp only [ByteArray.size_append] at c7b9)
 obtain ⟨⟨t281, t282⟩, A8, H⟩ := bN_ H
 have H' := Aside0.mk H
 clear H
 go_enter Tryd.func24, Tryd.ntmps24
 go_wp2_with (first | ((with_reducible refine gate_dst (N := 16) rfl ?_); (try (refine gate_guard (by rfl) ?_; dsimp only)); refine Kd.R_lit (Kd.int .i64) _ 3 ?hg (N := 16) ?hd (xs := ([] : List Int)) (inner := []) (ok := fun _ => True) (okp := fun _ => True) ?hr ?hp (fun _ hk => hk) trivial (Below.refl _ _) (Nat.le_refl _) (by simp) ?_; (case hd => rfl); (case hg => rfl); (case hr => first | (go_simp; done) | (go_simp; rfl)); (case hp => exact (Reps.none _ _)); intro v277 w9 ho10 hb hg_ hnew_; clear hg_ hnew_; (first | rw [← Ny276.out] at ho10 | (simp only [Int.reduceToNat] at ho10; rw [← Ny276.out] at ho10)); have n_ := b_ (Kd.R_lower ho10 (below_size (hB_))) <| c_ (below_step (hB_) hb); clear HB; obtain ⟨HO278, HB⟩ := n_; clear hb ho10) | (go_at_call 29; (with_reducible refine (spec_l06Byte.calls a1 t279 _ A4.out).mono ?_); rintro e w11 ⟨rfl, hb⟩; have n_ := b_ (Kd.R_below (rR_ HO278.out) hb) <| c_ (below_step (hB_) hb); clear HO278 HB; obtain ⟨HO278, HB⟩ := n_; (try clear hb)) | (go_at_call 29; (with_reducible refine (spec_l06Byte.calls a2 t280 _ A6.out).mono ?_); rintro e w12 ⟨rfl, hb⟩; have n_ := b_ (Kd.R_below (rR_ HO278.out) hb) <| c_ (below_step (hB_) hb); clear HO278 HB; obtain ⟨HO278, HB⟩ := n_; (try clear hb)) | (go_at_call 50; (with_reducible refine (spec_StreamNew.calls k ((a0 ++ t279) ++ t280) t281 t282 _ A8.out).mono ?_); rintro e w13 ⟨rfl, hb⟩; have n_ := b_ (Kd.R_below (rR_ HO278.out) hb) <| c_ (below_step (hB_) hb); clear HO278 HB; obtain ⟨HO278, HB⟩ := n_; (try clear hb)) | ((with_reducible refine gate_dst (N := 8) rfl ?_); (try (refine gate_guard (by rfl) ?_; dsimp only)); refine box_event ?hg (N := 8) ?hd (cs := #[.string (⟨#[]⟩ : ByteArray), .int .i64 0]) (t := 69) ?hr ?_; (case hd => rfl); (case hg => rfl); (case hr => first | (go_simp; done) | (go_simp; rfl)); intro gb283 hg w14 hbox hb; have n_ := b_ (Kd.R_below (rR_ HO278.out) hb) <| b_ (below_step (hB_) hb) <| b_ (hbox) <| b_ (by rw [hg]; exact (below_size (hB_)) : w.heap.size ≤ gb283) <| c_ (by rw [hg]; exact (below_size (hB_)) : w.heap.size ≤ gb283); clear HO278 HB; obtain ⟨HO278, HB, BK283, GW283, GE283⟩ := n_; clear hb hbox hg; have hcz15_0 : w14.cell? ⟨gb283, 0, none⟩ = some (.string (⟨#[]⟩ : ByteArray)) := (blk_cell BK283.out 0).trans rfl; have hcz15_1 : w14.cell? ⟨gb283, 1, none⟩ = some (.int .i64 0) := (blk_cell BK283.out 1).trans rfl; have hfz15_0 := blk_frozen BK283.out 0; have hfz15_1 := blk_frozen BK283.out 1))
 repeat (go_quiet (first | ((with_reducible refine gate_dst (N := 16) rfl ?_); (try (refine gate_guard (by rfl) ?_; dsimp only)); refine Kd.R_lit (Kd.int .i64) _ 3 ?hg (N := 16) ?hd (xs := ([] : List Int)) (inner := []) (ok := fun _ => True) (okp := fun _ => True) ?hr ?hp (fun _ hk => hk) trivial (Below.refl _ _) (Nat.le_refl _) (by simp) ?_; (case hd => rfl); (case hg => rfl); (case hr => first | (go_simp; done) | (go_simp; rfl)); (case hp => exact (Reps.none _ _)); intro v277 w9 ho10 hb hg_ hnew_; clear hg_ hnew_; (first | rw [← Ny276.out] at ho10 | (simp only [Int.reduceToNat] at ho10; rw [← Ny276.out] at ho10)); have n_ := b_ (Kd.R_lower ho10 (below_size (hB_))) <| c_ (below_step (hB_) hb); clear HB; obtain ⟨HO278, HB⟩ := n_; clear hb ho10) | (go_at_call 29; (with_reducible refine (spec_l06Byte.calls a1 t279 _ A4.out).mono ?_); rintro e w11 ⟨rfl, hb⟩; have n_ := b_ (Kd.R_below (rR_ HO278.out) hb) <| c_ (below_step (hB_) hb); clear HO278 HB; obtain ⟨HO278, HB⟩ := n_; (try clear hb)) | (go_at_call 29; (with_reducible refine (spec_l06Byte.calls a2 t280 _ A6.out).mono ?_); rintro e w12 ⟨rfl, hb⟩; have n_ := b_ (Kd.R_below (rR_ HO278.out) hb) <| c_ (below_step (hB_) hb); clear HO278 HB; obtain ⟨HO278, HB⟩ := n_; (try clear hb)) | (go_at_call 50; (with_reducible refine (spec_StreamNew.calls k ((a0 ++ t279) ++ t280) t281 t282 _ A8.out).mono ?_); rintro e w13 ⟨rfl, hb⟩; have n_ := b_ (Kd.R_below (rR_ HO278.out) hb) <| c_ (below_step (hB_) hb); clear HO278 HB; obtain ⟨HO278, HB⟩ := n_; (try clear hb)) | ((with_reducible refine gate_dst (N := 8) rfl ?_); (try (refine gate_guard (by rfl) ?_; dsimp only)); refine box_event ?hg (N := 8) ?hd (cs := #[.string (⟨#[]⟩ : ByteArray), .int .i64 0]) (t := 69) ?hr ?_; (case hd => rfl); (case hg => rfl); (case hr => first | (go_simp; done) | (go_simp; rfl)); intro gb283 hg w14 hbox hb; have n_ := b_ (Kd.R_below (rR_ HO278.out) hb) <| b_ (below_step (hB_) hb) <| b_ (hbox) <| b_ (by rw [hg]; exact (below_size (hB_)) : w.heap.size ≤ gb283) <| c_ (by rw [hg]; exact (below_size (hB_)) : w.heap.size ≤ gb283); clear HO278 HB; obtain ⟨HO278, HB, BK283, GW283, GE283⟩ := n_; clear hb hbox hg; have hcz15_0 : w14.cell? ⟨gb283, 0, none⟩ = some (.string (⟨#[]⟩ : ByteArray)) := (blk_cell BK283.out 0).trans rfl; have hcz15_1 : w14.cell? ⟨gb283, 1, none⟩ = some (.int .i64 0) := (blk_cell BK283.out 1).trans rfl; have hfz15_0 := blk_frozen BK283.out 0; have hfz15_1 := blk_frozen BK283.out 1)); try go_wp2_with (first | ((with_reducible refine gate_dst (N := 16) rfl ?_); (try (refine gate_guard (by rfl) ?_; dsimp only)); refine Kd.R_lit (Kd.int .i64) _ 3 ?hg (N := 16) ?hd (xs := ([] : List Int)) (inner := []) (ok := fun _ => True) (okp := fun _ => True) ?hr ?hp (fun _ hk => hk) trivial (Below.refl _ _) (Nat.le_refl _) (by simp) ?_; (case hd => rfl); (case hg => rfl); (case hr => first | (go_simp; done) | (go_simp; rfl)); (case hp => exact (Reps.none _ _)); intro v277 w9 ho10 hb hg_ hnew_; clear hg_ hnew_; (first | rw [← Ny276.out] at ho10 | (simp only [Int.reduceToNat] at ho10; rw [← Ny276.out] at ho10)); have n_ := b_ (Kd.R_lower ho10 (below_size (hB_))) <| c_ (below_step (hB_) hb); clear HB; obtain ⟨HO278, HB⟩ := n_; clear hb ho10) | (go_at_call 29; (with_reducible refine (spec_l06Byte.calls a1 t279 _ A4.out).mono ?_); rintro e w11 ⟨rfl, hb⟩; have n_ := b_ (Kd.R_below (rR_ HO278.out) hb) <| c_ (below_step (hB_) hb); clear HO278 HB; obtain ⟨HO278, HB⟩ := n_; (try clear hb)) | (go_at_call 29; (with_reducible refine (spec_l06Byte.calls a2 t280 _ A6.out).mono ?_); rintro e w12 ⟨rfl, hb⟩; have n_ := b_ (Kd.R_below (rR_ HO278.out) hb) <| c_ (below_step (hB_) hb); clear HO278 HB; obtain ⟨HO278, HB⟩ := n_; (try clear hb)) | (go_at_call 50; (with_reducible refine (spec_StreamNew.calls k ((a0 ++ t279) ++ t280) t281 t282 _ A8.out).mono ?_); rintro e w13 ⟨rfl, hb⟩; have n_ := b_ (Kd.R_below (rR_ HO278.out) hb) <| c_ (below_step (hB_) hb); clear HO278 HB; obtain ⟨HO278, HB⟩ := n_; (try clear hb)) | ((with_reducible refine gate_dst (N := 8) rfl ?_); (try (refine gate_guard (by rfl) ?_; dsimp only)); refine box_event ?hg (N := 8) ?hd (cs := #[.string (⟨#[]⟩ : ByteArray), .int .i64 0]) (t := 69) ?hr ?_; (case hd => rfl); (case hg => rfl); (case hr => first | (go_simp; done) | (go_simp; rfl)); intro gb283 hg w14 hbox hb; have n_ := b_ (Kd.R_below (rR_ HO278.out) hb) <| b_ (below_step (hB_) hb) <| b_ (hbox) <| b_ (by rw [hg]; exact (below_size (hB_)) : w.heap.size ≤ gb283) <| c_ (by rw [hg]; exact (below_size (hB_)) : w.heap.size ≤ gb283); clear HO278 HB; obtain ⟨HO278, HB, BK283, GW283, GE283⟩ := n_; clear hb hbox hg; have hcz15_0 : w14.cell? ⟨gb283, 0, none⟩ = some (.string (⟨#[]⟩ : ByteArray)) := (blk_cell BK283.out 0).trans rfl; have hcz15_1 : w14.cell? ⟨gb283, 1, none⟩ = some (.int .i64 0) := (blk_cell BK283.out 1).trans rfl; have hfz15_0 := blk_frozen BK283.out 0; have hfz15_1 := blk_frozen BK283.out 1)))
 go_loopg [7, 9, 10] k (fun kq v7 v9 v10 w' => ∃ (x7_1 : List Int) (x9_1 : ByteArray) (x10_1 : Int) (x284000_1 : ByteArray) (x284001_1 : Int), v9 = .string x9_1 ∧ v10 = .int .i64 x10_1 ∧ Aside0 (spec_Uniform.l0 kq x7_1 x9_1 x10_1 x284000_1 x284001_1 = some r) ∧ Aside0 (kq ≤ k) ∧ Aside0 (Kd.R (Kd.int .i64) 3 w' w.heap.size (fun _ => True) v7 x7_1) ∧ Aside0 (w'.heap[gb283]? = some (.cells #[.string x284000_1, .int .i64 x284001_1] 69 (0, 0))) ∧ Aside0 (Below w.heap.size w w'))
 case atStart => exact ⟨(y276), ((⟨#[]⟩ : ByteArray)), (0), (t281), (t282), f0_, f0_, H', ⟨Nat.le_refl _⟩, ⟨by refine kR_ ?_; exact Kd.R_mono (Kd.R_far (Kd.R_far (Kd.R_types HO278.out BK283.out (by decide)) (fun _ hk => hk.2) _) (fun _ hk => hk.2) _) (fun _ hk => trivial)⟩, ⟨by refine kK_ ?_; refine blk_put (cs := #[.string t281, .int .i64 0]) ?_ 1 _ rfl; refine kK_ ?_; refine blk_put (cs := #[.string (⟨#[]⟩ : ByteArray), .int .i64 0]) ?_ 0 _ rfl; refine kK_ ?_; exact BK283.out⟩, ⟨hS_ GE283.out⟩⟩
 case round =>
  clear H'
  obtain ⟨x7_1, x9_1, x10_1, x284000_1, x284001_1, rfl, rfl, HA, HK1, HO_7, BK283, HB⟩ := hrel
  cases gk with
  | zero => exact absurd HA.out (by simp [spec_Uniform.l0])
  | succ k1 =>
   have H := HA.out
   clear HA
   simp only [spec_Uniform.l0] at H
   have HC16 := Aside0.mk H
   clear H
   go_upto_region 5 with (fail)
   repeat (go_quiet (fail); go_upto_region 5 with (fail))
   go_cut [31] (fun v31 wc => ∃ (kq : Nat) (x31_15 : Bool), v31 = .bool x31_15 ∧ Aside0 (spec_Uniform.j1 kq x7_1 x9_1 x10_1 x31_15 x284000_1 x284001_1 = some r) ∧ Aside0 (kq ≤ k1) ∧ Aside0 (Kd.R (Kd.int .i64) 3 wc w.heap.size (fun _ => True) u7 x7_1) ∧ Aside0 (wc.heap[gb283]? = some (.cells #[.string x284000_1, .int .i64 x284001_1] 69 (0, 0))) ∧ Aside0 (Below w.heap.size w wc))
   case first =>
    have H := HC16.out
    clear HC16
    by_cases c17 : x10_1 < 4000
    ·rw [if_pos c17] at H
     have c17b0 := decide_eq_true c17
     clear c17
     (first | rw [c17b0] | (simp only [i64_w, i32_w]; rw [c17b0]) | skip)
     have H' := Aside0.mk H
     clear H
     obtain ⟨Ao18, co18, eo18⟩ := Kd.R_slice HO_7.out
     subst eo18
     go_wp2
     repeat (go_quiet (fail); try go_wp2)
     go_meet
     case rel => exact ⟨_, (decide ((x7_1.length : Int) < 256)), f0_, H', ⟨by have := HK1.out; first | omega | exact Nat.le_refl _⟩, ⟨rR_ HO_7.out⟩, ⟨by refine kK_ ?_; exact BK283.out⟩, ⟨hS_ GE283.out⟩⟩
    rw [if_neg c17] at H
    have c17b0 := decide_eq_false c17
    clear c17
    (first | rw [c17b0] | (simp only [i64_w, i32_w]; rw [c17b0]) | skip)
    have H' := Aside0.mk H
    clear H
    go_wp2
    repeat (go_quiet (fail); try go_wp2)
    go_meet
    case rel => exact ⟨_, (false), f0_, H', ⟨by have := HK1.out; first | omega | exact Nat.le_refl _⟩, ⟨rR_ HO_7.out⟩, ⟨by refine kK_ ?_; exact BK283.out⟩, ⟨hS_ GE283.out⟩⟩
   case rest =>
    clear HC16
    obtain ⟨kq, x31_15, rfl, HA, HJ15, HO_7, BK283, HB⟩ := hcut
    cases kq with
    | zero => exact absurd HA.out (by simp [spec_Uniform.j1])
    | succ kj15 =>
     have H := HA.out
     clear HA
     simp only [spec_Uniform.j1] at H
     by_cases c19 : x31_15 = true
     ·subst c19
      replace H := iT_ H
      have HC20 := Aside0.mk H
      clear H
      go_upto_if 38 with (fail)
      repeat (go_quiet (fail); go_upto_if 38 with (fail))
      go_cut [9] (fun v9 wc => ∃ (kq : Nat) (x9_19 : ByteArray) (x284000_19 : ByteArray) (x284001_19 : Int), v9 = .string x9_19 ∧ Aside0 (spec_Uniform.j2 kq x7_1 x9_19 x10_1 (wrap64 ((Int.tmod x10_1 56) * 3)) x284000_19 x284001_19 = some r) ∧ Aside0 (kq ≤ kj15) ∧ Aside0 (Kd.R (Kd.int .i64) 3 wc w.heap.size (fun _ => True) u7 x7_1) ∧ Aside0 (wc.heap[gb283]? = some (.cells #[.string x284000_19, .int .i64 x284001_19] 69 (0, 0))) ∧ Aside0 (Below w.heap.size w wc))
      case first =>
       have H := HC20.out
       clear HC20
       by_cases c21 : (wrap64 ((Int.tmod x10_1 56) * 3)) = 0
       ·rw [if_pos c21] at H
        have c21b0 : ((wrap64 ((Int.tmod x10_1 56) * 3)) == 0) = true := beq_iff_eq.mpr c21
        have c21b1 : ((wrap64 ((Int.tmod x10_1 56) * 3)) != 0) = false := bne_eq_false_iff_eq.mpr c21
        clear c21
        (first | rw [c21b0] | (simp only [i64_w, i32_w]; rw [c21b0]) | skip)
        obtain ⟨⟨t284, t285, t286⟩, A22, H⟩ := bN_ H
        have H' := Aside0.mk H
        clear H
        have hcz23_0 : wc.cell? ⟨gb283, 0, none⟩ = some (.string x284000_1) := (blk_cell BK283.out 0).trans rfl
        have hcz23_1 : wc.cell? ⟨gb283, 1, none⟩ = some (.int .i64 x284001_1) := (blk_cell BK283.out 1).trans rfl
        have hfz23_0 := blk_frozen BK283.out 0
        have hfz23_1 := blk_frozen BK283.out 1
        go_wp2_with (first | (go_at_call 51; (with_reducible refine (spec_StreamTake.calls kj15 x284000_1 x284001_1 168 t284 t285 t286 _ A22.out).mono ?_); rintro e w24 ⟨rfl, hb⟩; have n_ := b_ (Kd.R_below (rR_ HO_7.out) hb) <| b_ (blk_below (g := gb283) (o := .cells #[.string x284000_1, .int .i64 x284001_1] 69 (0, 0)) (rK_ BK283.out) hb) <| c_ (below_step (hS_ GE283.out) hb); clear HO_7 BK283 HB; obtain ⟨HO_7, BK283, HB⟩ := n_; (try clear hb)) | ((with_reducible refine gate_dst (N := 12) rfl ?_); (try (refine gate_guard (by rfl) ?_; dsimp only)); refine box_event ?hg (N := 12) ?hd (cs := #[.string (⟨#[]⟩ : ByteArray), .int .i64 0]) (t := 69) ?hr ?_; (case hd => rfl); (case hg => rfl); (case hr => first | (go_simp; done) | (go_simp; rfl)); intro gb287 hg w25 hbox hb; have n_ := b_ (Kd.R_below (rR_ HO_7.out) hb) <| b_ (blk_below (g := gb283) (o := .cells #[.string x284000_1, .int .i64 x284001_1] 69 (0, 0)) (rK_ BK283.out) hb) <| b_ (below_step (hS_ GE283.out) hb) <| b_ (hbox) <| b_ (by rw [hg]; exact (below_size (hS_ GE283.out)) : w.heap.size ≤ gb287) <| b_ (by rw [hg]; exact (below_size (hS_ GE283.out)) : w.heap.size ≤ gb287) <| b_ (by rw [hg]; exact Nat.ne_of_lt (blk_lt (g := gb283) (o := .cells #[.string x284000_1, .int .i64 x284001_1] 69 (0, 0)) (rK_ BK283.out)) : gb283 ≠ gb287) <| c_ (by rw [hg]; exact Nat.ne_of_gt (blk_lt (g := gb283) (o := .cells #[.string x284000_1, .int .i64 x284001_1] 69 (0, 0)) (rK_ BK283.out)) : gb287 ≠ gb283); clear HO_7 BK283 HB; obtain ⟨HO_7, BK283, HB, BK287, GW287, GE287, NB283_287, NB287_283⟩ := n_; clear hb hbox hg; have hnb26 := NB287_283.out; have hnc26 := NB283_287.out; have hcz27_0 : w25.cell? ⟨gb287, 0, none⟩ = some (.string (⟨#[]⟩ : ByteArray)) := (blk_cell BK287.out 0).trans rfl; have hcz27_1 : w25.cell? ⟨gb287, 1, none⟩ = some (.int .i64 0) := (blk_cell BK287.out 1).trans rfl; have hfz27_0 := blk_frozen BK287.out 0; have hfz27_1 := blk_frozen BK287.out 1; have hcz28_0 : w25.cell? ⟨gb283, 0, none⟩ = some (.string x284000_1) := (blk_cell BK283.out 0).trans rfl; have hcz28_1 : w25.cell? ⟨gb283, 1, none⟩ = some (.int .i64 x284001_1) := (blk_cell BK283.out 1).trans rfl; have hfz28_0 := blk_frozen BK283.out 0; have hfz28_1 := blk_frozen BK283.out 1))
        repeat (go_quiet (first | (go_at_call 51; (with_reducible refine (spec_StreamTake.calls kj15 x284000_1 x284001_1 168 t284 t285 t286 _ A22.out).mono ?_); rintro e w24 ⟨rfl, hb⟩; have n_ := b_ (Kd.R_below (rR_ HO_7.out) hb) <| b_ (blk_below (g := gb283) (o := .cells #[.string x284000_1, .int .i64 x284001_1] 69 (0, 0)) (rK_ BK283.out) hb) <| c_ (below_step (hS_ GE283.out) hb); clear HO_7 BK283 HB; obtain ⟨HO_7, BK283, HB⟩ := n_; (try clear hb)) | ((with_reducible refine gate_dst (N := 12) rfl ?_); (try (refine gate_guard (by rfl) ?_; dsimp only)); refine box_event ?hg (N := 12) ?hd (cs := #[.string (⟨#[]⟩ : ByteArray), .int .i64 0]) (t := 69) ?hr ?_; (case hd => rfl); (case hg => rfl); (case hr => first | (go_simp; done) | (go_simp; rfl)); intro gb287 hg w25 hbox hb; have n_ := b_ (Kd.R_below (rR_ HO_7.out) hb) <| b_ (blk_below (g := gb283) (o := .cells #[.string x284000_1, .int .i64 x284001_1] 69 (0, 0)) (rK_ BK283.out) hb) <| b_ (below_step (hS_ GE283.out) hb) <| b_ (hbox) <| b_ (by rw [hg]; exact (below_size (hS_ GE283.out)) : w.heap.size ≤ gb287) <| b_ (by rw [hg]; exact (below_size (hS_ GE283.out)) : w.heap.size ≤ gb287) <| b_ (by rw [hg]; exact Nat.ne_of_lt (blk_lt (g := gb283) (o := .cells #[.string x284000_1, .int .i64 x284001_1] 69 (0, 0)) (rK_ BK283.out)) : gb283 ≠ gb287) <| c_ (by rw [hg]; exact Nat.ne_of_gt (blk_lt (g := gb283) (o := .cells #[.string x284000_1, .int .i64 x284001_1] 69 (0, 0)) (rK_ BK283.out)) : gb287 ≠ gb283); clear HO_7 BK283 HB; obtain ⟨HO_7, BK283, HB, BK287, GW287, GE287, NB283_287, NB287_283⟩ := n_; clear hb hbox hg; have hnb26 := NB287_283.out; have hnc26 := NB283_287.out; have hcz27_0 : w25.cell? ⟨gb287, 0, none⟩ = some (.string (⟨#[]⟩ : ByteArray)) := (blk_cell BK287.out 0).trans rfl; have hcz27_1 : w25.cell? ⟨gb287, 1, none⟩ = some (.int .i64 0) := (blk_cell BK287.out 1).trans rfl; have hfz27_0 := blk_frozen BK287.out 0; have hfz27_1 := blk_frozen BK287.out 1; have hcz28_0 : w25.cell? ⟨gb283, 0, none⟩ = some (.string x284000_1) := (blk_cell BK283.out 0).trans rfl; have hcz28_1 : w25.cell? ⟨gb283, 1, none⟩ = some (.int .i64 x284001_1) := (blk_cell BK283.out 1).trans rfl; have hfz28_0 := blk_frozen BK283.out 0; have hfz28_1 := blk_frozen BK283.out 1)); try go_wp2_with (first | (go_at_call 51; (with_reducible refine (spec_StreamTake.calls kj15 x284000_1 x284001_1 168 t284 t285 t286 _ A22.out).mono ?_); rintro e w24 ⟨rfl, hb⟩; have n_ := b_ (Kd.R_below (rR_ HO_7.out) hb) <| b_ (blk_below (g := gb283) (o := .cells #[.string x284000_1, .int .i64 x284001_1] 69 (0, 0)) (rK_ BK283.out) hb) <| c_ (below_step (hS_ GE283.out) hb); clear HO_7 BK283 HB; obtain ⟨HO_7, BK283, HB⟩ := n_; (try clear hb)) | ((with_reducible refine gate_dst (N := 12) rfl ?_); (try (refine gate_guard (by rfl) ?_; dsimp only)); refine box_event ?hg (N := 12) ?hd (cs := #[.string (⟨#[]⟩ : ByteArray), .int .i64 0]) (t := 69) ?hr ?_; (case hd => rfl); (case hg => rfl); (case hr => first | (go_simp; done) | (go_simp; rfl)); intro gb287 hg w25 hbox hb; have n_ := b_ (Kd.R_below (rR_ HO_7.out) hb) <| b_ (blk_below (g := gb283) (o := .cells #[.string x284000_1, .int .i64 x284001_1] 69 (0, 0)) (rK_ BK283.out) hb) <| b_ (below_step (hS_ GE283.out) hb) <| b_ (hbox) <| b_ (by rw [hg]; exact (below_size (hS_ GE283.out)) : w.heap.size ≤ gb287) <| b_ (by rw [hg]; exact (below_size (hS_ GE283.out)) : w.heap.size ≤ gb287) <| b_ (by rw [hg]; exact Nat.ne_of_lt (blk_lt (g := gb283) (o := .cells #[.string x284000_1, .int .i64 x284001_1] 69 (0, 0)) (rK_ BK283.out)) : gb283 ≠ gb287) <| c_ (by rw [hg]; exact Nat.ne_of_gt (blk_lt (g := gb283) (o := .cells #[.string x284000_1, .int .i64 x284001_1] 69 (0, 0)) (rK_ BK283.out)) : gb287 ≠ gb283); clear HO_7 BK283 HB; obtain ⟨HO_7, BK283, HB, BK287, GW287, GE287, NB283_287, NB287_283⟩ := n_; clear hb hbox hg; have hnb26 := NB287_283.out; have hnc26 := NB283_287.out; have hcz27_0 : w25.cell? ⟨gb287, 0, none⟩ = some (.string (⟨#[]⟩ : ByteArray)) := (blk_cell BK287.out 0).trans rfl; have hcz27_1 : w25.cell? ⟨gb287, 1, none⟩ = some (.int .i64 0) := (blk_cell BK287.out 1).trans rfl; have hfz27_0 := blk_frozen BK287.out 0; have hfz27_1 := blk_frozen BK287.out 1; have hcz28_0 : w25.cell? ⟨gb283, 0, none⟩ = some (.string x284000_1) := (blk_cell BK283.out 0).trans rfl; have hcz28_1 : w25.cell? ⟨gb283, 1, none⟩ = some (.int .i64 x284001_1) := (blk_cell BK283.out 1).trans rfl; have hfz28_0 := blk_frozen BK283.out 0; have hfz28_1 := blk_frozen BK283.out 1)))
        go_meet
        case rel => exact ⟨_, (t286), (t284), (t285), f0_, H', ⟨by have := HK1.out; have := HJ15.out; first | omega | exact Nat.le_refl _⟩, ⟨by refine kR_ ?_; exact Kd.R_mono (Kd.R_far (Kd.R_far (Kd.R_far (Kd.R_far (Kd.R_types (Kd.R_types HO_7.out BK287.out (by decide)) BK283.out (by decide)) (fun _ hk => hk.1.2) (.string t284)) (fun _ hk => hk.1.2) (.int .i64 t285)) (fun _ hk => hk.2) _) (fun _ hk => hk.2) _) (fun _ hk => trivial)⟩, ⟨by refine kK_ ?_; refine blk_put (cs := #[.string t284, .int .i64 x284001_1]) ?_ 1 _ rfl; refine kK_ ?_; refine blk_put (cs := #[.string x284000_1, .int .i64 x284001_1]) ?_ 0 _ rfl; refine kK_ ?_; refine blk_far ?_ NB283_287.out _; refine kK_ ?_; refine blk_far ?_ NB283_287.out _; refine kK_ ?_; exact BK283.out⟩, ⟨(u0_ GE283.out GE287.out)⟩⟩
       rw [if_neg c21] at H
       have c21b0 : ((wrap64 ((Int.tmod x10_1 56) * 3)) == 0) = false := beq_eq_false_iff_ne.mpr c21
       have c21b1 : ((wrap64 ((Int.tmod x10_1 56) * 3)) != 0) = true := bne_iff_ne.mpr c21
       (first | rw [c21b0] | (simp only [i64_w, i32_w]; rw [c21b0]) | skip)
       have H' := Aside0.mk H
       clear H
       go_wp2
       repeat (go_quiet (fail); try go_wp2)
       go_meet
       case rel => exact ⟨_, (x9_1), (x284000_1), (x284001_1), f0_, H', ⟨by have := HK1.out; have := HJ15.out; first | omega | exact Nat.le_refl _⟩, ⟨rR_ HO_7.out⟩, ⟨by refine kK_ ?_; exact BK283.out⟩, ⟨hS_ GE283.out⟩⟩
      case rest =>
       clear HC20
       obtain ⟨kq, x9_19, x284000_19, x284001_19, rfl, HA, HJ19, HO_7, BK283, HB⟩ := hcut
       cases kq with
       | zero => exact absurd HA.out (by simp [spec_Uniform.j2])
       | succ kj19 =>
        have H := HA.out
        clear HA
        simp only [spec_Uniform.j2] at H
        obtain ⟨ji29, hji29⟩ : ∃ j_ : Int, (wrap64 ((Int.tmod x10_1 56) * 3)) = j_ := ⟨_, rfl⟩
        first | rw [hji29] at H | simp only [hji29] at H
        have hji29w : (IntKind.i64.wrap ((Int.tmod x10_1 56) * 3)) = ji29 := (i64_w _).trans hji29
        obtain ⟨c30b0, H⟩ := iD_ H
        obtain ⟨c31b0, H⟩ := iD_ H
        obtain ⟨ji33, hji33⟩ : ∃ j_ : Int, (wrap64 ((ji29) + 1)) = j_ := ⟨_, rfl⟩
        first | rw [hji33] at H | simp only [hji33] at H
        have hji33w : (IntKind.i64.wrap ((ji29) + 1)) = ji33 := (i64_w _).trans hji33
        obtain ⟨c34b0, H⟩ := iD_ H
        obtain ⟨c35b0, H⟩ := iD_ H
        obtain ⟨ji38, hji38⟩ : ∃ j_ : Int, (wrap64 ((ji29) + 2)) = j_ := ⟨_, rfl⟩
        first | rw [hji38] at H | simp only [hji38] at H
        have hji38w : (IntKind.i64.wrap ((ji29) + 2)) = ji38 := (i64_w _).trans hji38
        obtain ⟨c39b0, H⟩ := iD_ H
        obtain ⟨c40b0, H⟩ := iD_ H
        by_cases c42 : (wrap64 ((wrap64 (bt x9_19 (ji29))) + (wrap64 (256 * (Int.tmod (wrap64 (bt x9_19 (ji33))) 16))))) < 3329
        ·rw [if_pos c42] at H
         have c42b0 := decide_eq_true c42
         clear c42
         obtain ⟨c43, H⟩ := iN_ H
         have LMc43 := Aside0.mk c43
         clear c43
         obtain ⟨y288, hy288⟩ : ∃ y_ : List Int, y_ = (x7_1 ++ [wrap64 ((wrap64 (bt x9_19 (ji29))) + (wrap64 (256 * (Int.tmod (wrap64 (bt x9_19 (ji33))) 16))))]) := ⟨_, rfl⟩
         first | replace H := yb_ hy288 H | rw [← hy288] at H
         have Ny288 := Aside0.mk hy288
         clear hy288
         by_cases c44 : (wrap64 ((wrap64 (Int.tdiv (wrap64 (bt x9_19 (ji33))) 16)) + (wrap64 (16 * (wrap64 (bt x9_19 (ji38))))))) < 3329
         rotate_left
         ·rw [if_neg c44] at H
          have c44b0 := decide_eq_false c44
          clear c44
          have H' := Aside0.mk H
          clear H
          have p32 := eq_true (oD_ : 0 ≤ ((ji29) : Int))
          have q32 := eq_true (oD_ : (ji29) < (x9_19.size : Int))
          have hx32 := bt_at x9_19 (ji29)
          have p36 := eq_true (oD_ : 0 ≤ ((ji33) : Int))
          have q36 := eq_true (oD_ : (ji33) < (x9_19.size : Int))
          have hx36 := bt_at x9_19 (ji33)
          have p37 := eq_true (oD_ : 0 ≤ ((ji33) : Int))
          have q37 := eq_true (oD_ : (ji33) < (x9_19.size : Int))
          have hx37 := bt_at x9_19 (ji33)
          have p41 := eq_true (oD_ : 0 ≤ ((ji38) : Int))
          have q41 := eq_true (oD_ : (ji38) < (x9_19.size : Int))
          have hx41 := bt_at x9_19 (ji38)
          go_wp2_with (first | ((with_reducible refine gate_builtin (b := .append) (xs := #[.tmp 73, .tmp 75]) rfl ?_); (try (refine gate_guard (by rfl) ?_; dsimp only)); at_builtin; refine Kd.R_append (Kd.int .i64) (w0 := w) w.heap.size rfl (.tmp 73) (.tmp 75) 31 3 (.int .i64 0) 8 rfl Tryd.underlying31 info3 rfl (by decide) (by omega) u7 x7_1 (wrap64 ((wrap64 (bt x9_19 (ji29))) + (wrap64 (256 * (Int.tmod (wrap64 (bt x9_19 (ji33))) 16))))) [.int .i64 (wrap64 ((wrap64 (bt x9_19 (ji29))) + (wrap64 (256 * (Int.tmod (wrap64 (bt x9_19 (ji33))) 16)))))] (fun _ => True) (fun _ => False) rfl rfl ?aP (fun _ hk => hk.elim) ?aF ?aO ?aB ?aS ?aL ?_; (case aP => exact rfl); (case aB => exact (hS_ GE283.out)); (case aF => exact (fun _ _ => trivial)); (case aO => exact (rR_ HO_7.out)); (case aS => exact (below_size (hS_ GE283.out))); (case aL => have := LMc43.out; omega); intro v289 w52 ho hb hg hat; rw [← Ny288.out] at ho; have n_ := b_ (blk_grown (g := gb283) (o := .cells #[.string x284000_19, .int .i64 x284001_19] 69 (0, 0)) (rK_ BK283.out) hg (Kd.R_ne HO_7.out BK283.out (by decide))) <| b_ (hb) <| c_ (ho); clear HO_7 BK283 HB; obtain ⟨BK283, HB, HO290⟩ := n_; clear ho hb hg hat))
          repeat (go_quiet (first | ((with_reducible refine gate_builtin (b := .append) (xs := #[.tmp 73, .tmp 75]) rfl ?_); (try (refine gate_guard (by rfl) ?_; dsimp only)); at_builtin; refine Kd.R_append (Kd.int .i64) (w0 := w) w.heap.size rfl (.tmp 73) (.tmp 75) 31 3 (.int .i64 0) 8 rfl Tryd.underlying31 info3 rfl (by decide) (by omega) u7 x7_1 (wrap64 ((wrap64 (bt x9_19 (ji29))) + (wrap64 (256 * (Int.tmod (wrap64 (bt x9_19 (ji33))) 16))))) [.int .i64 (wrap64 ((wrap64 (bt x9_19 (ji29))) + (wrap64 (256 * (Int.tmod (wrap64 (bt x9_19 (ji33))) 16)))))] (fun _ => True) (fun _ => False) rfl rfl ?aP (fun _ hk => hk.elim) ?aF ?aO ?aB ?aS ?aL ?_; (case aP => exact rfl); (case aB => exact (hS_ GE283.out)); (case aF => exact (fun _ _ => trivial)); (case aO => exact (rR_ HO_7.out)); (case aS => exact (below_size (hS_ GE283.out))); (case aL => have := LMc43.out; omega); intro v289 w52 ho hb hg hat; rw [← Ny288.out] at ho; have n_ := b_ (blk_grown (g := gb283) (o := .cells #[.string x284000_19, .int .i64 x284001_19] 69 (0, 0)) (rK_ BK283.out) hg (Kd.R_ne HO_7.out BK283.out (by decide))) <| b_ (hb) <| c_ (ho); clear HO_7 BK283 HB; obtain ⟨BK283, HB, HO290⟩ := n_; clear ho hb hg hat)); try go_wp2_with (first | ((with_reducible refine gate_builtin (b := .append) (xs := #[.tmp 73, .tmp 75]) rfl ?_); (try (refine gate_guard (by rfl) ?_; dsimp only)); at_builtin; refine Kd.R_append (Kd.int .i64) (w0 := w) w.heap.size rfl (.tmp 73) (.tmp 75) 31 3 (.int .i64 0) 8 rfl Tryd.underlying31 info3 rfl (by decide) (by omega) u7 x7_1 (wrap64 ((wrap64 (bt x9_19 (ji29))) + (wrap64 (256 * (Int.tmod (wrap64 (bt x9_19 (ji33))) 16))))) [.int .i64 (wrap64 ((wrap64 (bt x9_19 (ji29))) + (wrap64 (256 * (Int.tmod (wrap64 (bt x9_19 (ji33))) 16)))))] (fun _ => True) (fun _ => False) rfl rfl ?aP (fun _ hk => hk.elim) ?aF ?aO ?aB ?aS ?aL ?_; (case aP => exact rfl); (case aB => exact (hS_ GE283.out)); (case aF => exact (fun _ _ => trivial)); (case aO => exact (rR_ HO_7.out)); (case aS => exact (below_size (hS_ GE283.out))); (case aL => have := LMc43.out; omega); intro v289 w52 ho hb hg hat; rw [← Ny288.out] at ho; have n_ := b_ (blk_grown (g := gb283) (o := .cells #[.string x284000_19, .int .i64 x284001_19] 69 (0, 0)) (rK_ BK283.out) hg (Kd.R_ne HO_7.out BK283.out (by decide))) <| b_ (hb) <| c_ (ho); clear HO_7 BK283 HB; obtain ⟨BK283, HB, HO290⟩ := n_; clear ho hb hg hat)))
          go_roundg kj19
          case measure => have := HK1.out; have := HJ15.out; have := HJ19.out; omega
          case rel => exact ⟨(y288), (x9_19), (wrap64 (x10_1 + 1)), (x284000_19), (x284001_19), f0_, f0_, H', ⟨by have := HK1.out; have := HJ15.out; have := HJ19.out; omega⟩, ⟨rR_ HO290.out⟩, ⟨by refine kK_ ?_; exact BK283.out⟩, ⟨hS_ GE283.out⟩⟩
         rw [if_pos c44] at H
         have c44b0 := decide_eq_true c44
         clear c44
         by_cases c45 : (y288.length : Int) < 256
         ·rw [if_pos c45] at H
          have c45b0 := decide_eq_true c45
          have c45b1 : decide (y288.length < 256) = true := decide_eq_true (by omega)
          clear c45
          obtain ⟨c46, H⟩ := iN_ H
          have LMc46 := Aside0.mk c46
          clear c46
          obtain ⟨y291, hy291⟩ : ∃ y_ : List Int, y_ = (y288 ++ [wrap64 ((wrap64 (Int.tdiv (wrap64 (bt x9_19 (ji33))) 16)) + (wrap64 (16 * (wrap64 (bt x9_19 (ji38))))))]) := ⟨_, rfl⟩
          first | replace H := yb_ hy291 H | rw [← hy291] at H
          have Ny291 := Aside0.mk hy291
          clear hy291
          have H' := Aside0.mk H
          clear H
          have p32 := eq_true (oD_ : 0 ≤ ((ji29) : Int))
          have q32 := eq_true (oD_ : (ji29) < (x9_19.size : Int))
          have hx32 := bt_at x9_19 (ji29)
          have p36 := eq_true (oD_ : 0 ≤ ((ji33) : Int))
          have q36 := eq_true (oD_ : (ji33) < (x9_19.size : Int))
          have hx36 := bt_at x9_19 (ji33)
          have p37 := eq_true (oD_ : 0 ≤ ((ji33) : Int))
          have q37 := eq_true (oD_ : (ji33) < (x9_19.size : Int))
          have hx37 := bt_at x9_19 (ji33)
          have p41 := eq_true (oD_ : 0 ≤ ((ji38) : Int))
          have q41 := eq_true (oD_ : (ji38) < (x9_19.size : Int))
          have hx41 := bt_at x9_19 (ji38)
          go_wp2_with (first | ((with_reducible refine gate_builtin (b := .append) (xs := #[.tmp 73, .tmp 75]) rfl ?_); (try (refine gate_guard (by rfl) ?_; dsimp only)); at_builtin; refine Kd.R_append (Kd.int .i64) (w0 := w) w.heap.size rfl (.tmp 73) (.tmp 75) 31 3 (.int .i64 0) 8 rfl Tryd.underlying31 info3 rfl (by decide) (by omega) u7 x7_1 (wrap64 ((wrap64 (bt x9_19 (ji29))) + (wrap64 (256 * (Int.tmod (wrap64 (bt x9_19 (ji33))) 16))))) [.int .i64 (wrap64 ((wrap64 (bt x9_19 (ji29))) + (wrap64 (256 * (Int.tmod (wrap64 (bt x9_19 (ji33))) 16)))))] (fun _ => True) (fun _ => False) rfl rfl ?aP (fun _ hk => hk.elim) ?aF ?aO ?aB ?aS ?aL ?_; (case aP => exact rfl); (case aB => exact (hS_ GE283.out)); (case aF => exact (fun _ _ => trivial)); (case aO => exact (rR_ HO_7.out)); (case aS => exact (below_size (hS_ GE283.out))); (case aL => have := LMc43.out; omega); intro v289 w47 ho hb hg hat; rw [← Ny288.out] at ho; have n_ := b_ (blk_grown (g := gb283) (o := .cells #[.string x284000_19, .int .i64 x284001_19] 69 (0, 0)) (rK_ BK283.out) hg (Kd.R_ne HO_7.out BK283.out (by decide))) <| b_ (hb) <| c_ (ho); clear HO_7 BK283 HB; obtain ⟨BK283, HB, HO290⟩ := n_; clear ho hb hg hat; obtain ⟨Ao48, co48, eo48⟩ := Kd.R_slice HO290.out; subst eo48) | ((with_reducible refine gate_builtin (b := .append) (xs := #[.tmp 84, .tmp 86]) rfl ?_); (try (refine gate_guard (by rfl) ?_; dsimp only)); at_builtin; refine Kd.R_append (Kd.int .i64) (w0 := w) w.heap.size rfl (.tmp 84) (.tmp 86) 31 3 (.int .i64 0) 8 rfl Tryd.underlying31 info3 rfl (by decide) (by omega) (.slice Ao48 y288.length co48) y288 (wrap64 ((wrap64 (Int.tdiv (wrap64 (bt x9_19 (ji33))) 16)) + (wrap64 (16 * (wrap64 (bt x9_19 (ji38))))))) [.int .i64 (wrap64 ((wrap64 (Int.tdiv (wrap64 (bt x9_19 (ji33))) 16)) + (wrap64 (16 * (wrap64 (bt x9_19 (ji38)))))))] (fun _ => True) (fun _ => False) rfl rfl ?aP (fun _ hk => hk.elim) ?aF ?aO ?aB ?aS ?aL ?_; (case aP => exact rfl); (case aB => exact (hS_ GE283.out)); (case aF => exact (fun _ _ => trivial)); (case aO => exact (rR_ HO290.out)); (case aS => exact (below_size (hS_ GE283.out))); (case aL => have := LMc46.out; omega); intro v292 w49 ho hb hg hat; rw [← Ny291.out] at ho; have n_ := b_ (blk_grown (g := gb283) (o := .cells #[.string x284000_19, .int .i64 x284001_19] 69 (0, 0)) (rK_ BK283.out) hg (Kd.R_ne HO290.out BK283.out (by decide))) <| b_ (hb) <| c_ (ho); clear HO290 BK283 HB; obtain ⟨BK283, HB, HO293⟩ := n_; clear ho hb hg hat))
          repeat (go_quiet (first | ((with_reducible refine gate_builtin (b := .append) (xs := #[.tmp 73, .tmp 75]) rfl ?_); (try (refine gate_guard (by rfl) ?_; dsimp only)); at_builtin; refine Kd.R_append (Kd.int .i64) (w0 := w) w.heap.size rfl (.tmp 73) (.tmp 75) 31 3 (.int .i64 0) 8 rfl Tryd.underlying31 info3 rfl (by decide) (by omega) u7 x7_1 (wrap64 ((wrap64 (bt x9_19 (ji29))) + (wrap64 (256 * (Int.tmod (wrap64 (bt x9_19 (ji33))) 16))))) [.int .i64 (wrap64 ((wrap64 (bt x9_19 (ji29))) + (wrap64 (256 * (Int.tmod (wrap64 (bt x9_19 (ji33))) 16)))))] (fun _ => True) (fun _ => False) rfl rfl ?aP (fun _ hk => hk.elim) ?aF ?aO ?aB ?aS ?aL ?_; (case aP => exact rfl); (case aB => exact (hS_ GE283.out)); (case aF => exact (fun _ _ => trivial)); (case aO => exact (rR_ HO_7.out)); (case aS => exact (below_size (hS_ GE283.out))); (case aL => have := LMc43.out; omega); intro v289 w47 ho hb hg hat; rw [← Ny288.out] at ho; have n_ := b_ (blk_grown (g := gb283) (o := .cells #[.string x284000_19, .int .i64 x284001_19] 69 (0, 0)) (rK_ BK283.out) hg (Kd.R_ne HO_7.out BK283.out (by decide))) <| b_ (hb) <| c_ (ho); clear HO_7 BK283 HB; obtain ⟨BK283, HB, HO290⟩ := n_; clear ho hb hg hat; obtain ⟨Ao48, co48, eo48⟩ := Kd.R_slice HO290.out; subst eo48) | ((with_reducible refine gate_builtin (b := .append) (xs := #[.tmp 84, .tmp 86]) rfl ?_); (try (refine gate_guard (by rfl) ?_; dsimp only)); at_builtin; refine Kd.R_append (Kd.int .i64) (w0 := w) w.heap.size rfl (.tmp 84) (.tmp 86) 31 3 (.int .i64 0) 8 rfl Tryd.underlying31 info3 rfl (by decide) (by omega) (.slice Ao48 y288.length co48) y288 (wrap64 ((wrap64 (Int.tdiv (wrap64 (bt x9_19 (ji33))) 16)) + (wrap64 (16 * (wrap64 (bt x9_19 (ji38))))))) [.int .i64 (wrap64 ((wrap64 (Int.tdiv (wrap64 (bt x9_19 (ji33))) 16)) + (wrap64 (16 * (wrap64 (bt x9_19 (ji38)))))))] (fun _ => True) (fun _ => False) rfl rfl ?aP (fun _ hk => hk.elim) ?aF ?aO ?aB ?aS ?aL ?_; (case aP => exact rfl); (case aB => exact (hS_ GE283.out)); (case aF => exact (fun _ _ => trivial)); (case aO => exact (rR_ HO290.out)); (case aS => exact (below_size (hS_ GE283.out))); (case aL => have := LMc46.out; omega); intro v292 w49 ho hb hg hat; rw [← Ny291.out] at ho; have n_ := b_ (blk_grown (g := gb283) (o := .cells #[.string x284000_19, .int .i64 x284001_19] 69 (0, 0)) (rK_ BK283.out) hg (Kd.R_ne HO290.out BK283.out (by decide))) <| b_ (hb) <| c_ (ho); clear HO290 BK283 HB; obtain ⟨BK283, HB, HO293⟩ := n_; clear ho hb hg hat)); try go_wp2_with (first | ((with_reducible refine gate_builtin (b := .append) (xs := #[.tmp 73, .tmp 75]) rfl ?_); (try (refine gate_guard (by rfl) ?_; dsimp only)); at_builtin; refine Kd.R_append (Kd.int .i64) (w0 := w) w.heap.size rfl (.tmp 73) (.tmp 75) 31 3 (.int .i64 0) 8 rfl Tryd.underlying31 info3 rfl (by decide) (by omega) u7 x7_1 (wrap64 ((wrap64 (bt x9_19 (ji29))) + (wrap64 (256 * (Int.tmod (wrap64 (bt x9_19 (ji33))) 16))))) [.int .i64 (wrap64 ((wrap64 (bt x9_19 (ji29))) + (wrap64 (256 * (Int.tmod (wrap64 (bt x9_19 (ji33))) 16)))))] (fun _ => True) (fun _ => False) rfl rfl ?aP (fun _ hk => hk.elim) ?aF ?aO ?aB ?aS ?aL ?_; (case aP => exact rfl); (case aB => exact (hS_ GE283.out)); (case aF => exact (fun _ _ => trivial)); (case aO => exact (rR_ HO_7.out)); (case aS => exact (below_size (hS_ GE283.out))); (case aL => have := LMc43.out; omega); intro v289 w47 ho hb hg hat; rw [← Ny288.out] at ho; have n_ := b_ (blk_grown (g := gb283) (o := .cells #[.string x284000_19, .int .i64 x284001_19] 69 (0, 0)) (rK_ BK283.out) hg (Kd.R_ne HO_7.out BK283.out (by decide))) <| b_ (hb) <| c_ (ho); clear HO_7 BK283 HB; obtain ⟨BK283, HB, HO290⟩ := n_; clear ho hb hg hat; obtain ⟨Ao48, co48, eo48⟩ := Kd.R_slice HO290.out; subst eo48) | ((with_reducible refine gate_builtin (b := .append) (xs := #[.tmp 84, .tmp 86]) rfl ?_); (try (refine gate_guard (by rfl) ?_; dsimp only)); at_builtin; refine Kd.R_append (Kd.int .i64) (w0 := w) w.heap.size rfl (.tmp 84) (.tmp 86) 31 3 (.int .i64 0) 8 rfl Tryd.underlying31 info3 rfl (by decide) (by omega) (.slice Ao48 y288.length co48) y288 (wrap64 ((wrap64 (Int.tdiv (wrap64 (bt x9_19 (ji33))) 16)) + (wrap64 (16 * (wrap64 (bt x9_19 (ji38))))))) [.int .i64 (wrap64 ((wrap64 (Int.tdiv (wrap64 (bt x9_19 (ji33))) 16)) + (wrap64 (16 * (wrap64 (bt x9_19 (ji38)))))))] (fun _ => True) (fun _ => False) rfl rfl ?aP (fun _ hk => hk.elim) ?aF ?aO ?aB ?aS ?aL ?_; (case aP => exact rfl); (case aB => exact (hS_ GE283.out)); (case aF => exact (fun _ _ => trivial)); (case aO => exact (rR_ HO290.out)); (case aS => exact (below_size (hS_ GE283.out))); (case aL => have := LMc46.out; omega); intro v292 w49 ho hb hg hat; rw [← Ny291.out] at ho; have n_ := b_ (blk_grown (g := gb283) (o := .cells #[.string x284000_19, .int .i64 x284001_19] 69 (0, 0)) (rK_ BK283.out) hg (Kd.R_ne HO290.out BK283.out (by decide))) <| b_ (hb) <| c_ (ho); clear HO290 BK283 HB; obtain ⟨BK283, HB, HO293⟩ := n_; clear ho hb hg hat)))
          go_roundg kj19
          case measure => have := HK1.out; have := HJ15.out; have := HJ19.out; omega
          case rel => exact ⟨(y291), (x9_19), (wrap64 (x10_1 + 1)), (x284000_19), (x284001_19), f0_, f0_, H', ⟨by have := HK1.out; have := HJ15.out; have := HJ19.out; omega⟩, ⟨rR_ HO293.out⟩, ⟨by refine kK_ ?_; exact BK283.out⟩, ⟨hS_ GE283.out⟩⟩
         rw [if_neg c45] at H
         have c45b0 := decide_eq_false c45
         have c45b1 : decide (y288.length < 256) = false := decide_eq_false (by omega)
         clear c45
         have H' := Aside0.mk H
         clear H
         have p32 := eq_true (oD_ : 0 ≤ ((ji29) : Int))
         have q32 := eq_true (oD_ : (ji29) < (x9_19.size : Int))
         have hx32 := bt_at x9_19 (ji29)
         have p36 := eq_true (oD_ : 0 ≤ ((ji33) : Int))
         have q36 := eq_true (oD_ : (ji33) < (x9_19.size : Int))
         have hx36 := bt_at x9_19 (ji33)
         have p37 := eq_true (oD_ : 0 ≤ ((ji33) : Int))
         have q37 := eq_true (oD_ : (ji33) < (x9_19.size : Int))
         have hx37 := bt_at x9_19 (ji33)
         have p41 := eq_true (oD_ : 0 ≤ ((ji38) : Int))
         have q41 := eq_true (oD_ : (ji38) < (x9_19.size : Int))
         have hx41 := bt_at x9_19 (ji38)
         go_wp2_with (first | ((with_reducible refine gate_builtin (b := .append) (xs := #[.tmp 73, .tmp 75]) rfl ?_); (try (refine gate_guard (by rfl) ?_; dsimp only)); at_builtin; refine Kd.R_append (Kd.int .i64) (w0 := w) w.heap.size rfl (.tmp 73) (.tmp 75) 31 3 (.int .i64 0) 8 rfl Tryd.underlying31 info3 rfl (by decide) (by omega) u7 x7_1 (wrap64 ((wrap64 (bt x9_19 (ji29))) + (wrap64 (256 * (Int.tmod (wrap64 (bt x9_19 (ji33))) 16))))) [.int .i64 (wrap64 ((wrap64 (bt x9_19 (ji29))) + (wrap64 (256 * (Int.tmod (wrap64 (bt x9_19 (ji33))) 16)))))] (fun _ => True) (fun _ => False) rfl rfl ?aP (fun _ hk => hk.elim) ?aF ?aO ?aB ?aS ?aL ?_; (case aP => exact rfl); (case aB => exact (hS_ GE283.out)); (case aF => exact (fun _ _ => trivial)); (case aO => exact (rR_ HO_7.out)); (case aS => exact (below_size (hS_ GE283.out))); (case aL => have := LMc43.out; omega); intro v289 w50 ho hb hg hat; rw [← Ny288.out] at ho; have n_ := b_ (blk_grown (g := gb283) (o := .cells #[.string x284000_19, .int .i64 x284001_19] 69 (0, 0)) (rK_ BK283.out) hg (Kd.R_ne HO_7.out BK283.out (by decide))) <| b_ (hb) <| c_ (ho); clear HO_7 BK283 HB; obtain ⟨BK283, HB, HO290⟩ := n_; clear ho hb hg hat; obtain ⟨Ao51, co51, eo51⟩ := Kd.R_slice HO290.out; subst eo51))
         repeat (go_quiet (first | ((with_reducible refine gate_builtin (b := .append) (xs := #[.tmp 73, .tmp 75]) rfl ?_); (try (refine gate_guard (by rfl) ?_; dsimp only)); at_builtin; refine Kd.R_append (Kd.int .i64) (w0 := w) w.heap.size rfl (.tmp 73) (.tmp 75) 31 3 (.int .i64 0) 8 rfl Tryd.underlying31 info3 rfl (by decide) (by omega) u7 x7_1 (wrap64 ((wrap64 (bt x9_19 (ji29))) + (wrap64 (256 * (Int.tmod (wrap64 (bt x9_19 (ji33))) 16))))) [.int .i64 (wrap64 ((wrap64 (bt x9_19 (ji29))) + (wrap64 (256 * (Int.tmod (wrap64 (bt x9_19 (ji33))) 16)))))] (fun _ => True) (fun _ => False) rfl rfl ?aP (fun _ hk => hk.elim) ?aF ?aO ?aB ?aS ?aL ?_; (case aP => exact rfl); (case aB => exact (hS_ GE283.out)); (case aF => exact (fun _ _ => trivial)); (case aO => exact (rR_ HO_7.out)); (case aS => exact (below_size (hS_ GE283.out))); (case aL => have := LMc43.out; omega); intro v289 w50 ho hb hg hat; rw [← Ny288.out] at ho; have n_ := b_ (blk_grown (g := gb283) (o := .cells #[.string x284000_19, .int .i64 x284001_19] 69 (0, 0)) (rK_ BK283.out) hg (Kd.R_ne HO_7.out BK283.out (by decide))) <| b_ (hb) <| c_ (ho); clear HO_7 BK283 HB; obtain ⟨BK283, HB, HO290⟩ := n_; clear ho hb hg hat; obtain ⟨Ao51, co51, eo51⟩ := Kd.R_slice HO290.out; subst eo51)); try go_wp2_with (first | ((with_reducible refine gate_builtin (b := .append) (xs := #[.tmp 73, .tmp 75]) rfl ?_); (try (refine gate_guard (by rfl) ?_; dsimp only)); at_builtin; refine Kd.R_append (Kd.int .i64) (w0 := w) w.heap.size rfl (.tmp 73) (.tmp 75) 31 3 (.int .i64 0) 8 rfl Tryd.underlying31 info3 rfl (by decide) (by omega) u7 x7_1 (wrap64 ((wrap64 (bt x9_19 (ji29))) + (wrap64 (256 * (Int.tmod (wrap64 (bt x9_19 (ji33))) 16))))) [.int .i64 (wrap64 ((wrap64 (bt x9_19 (ji29))) + (wrap64 (256 * (Int.tmod (wrap64 (bt x9_19 (ji33))) 16)))))] (fun _ => True) (fun _ => False) rfl rfl ?aP (fun _ hk => hk.elim) ?aF ?aO ?aB ?aS ?aL ?_; (case aP => exact rfl); (case aB => exact (hS_ GE283.out)); (case aF => exact (fun _ _ => trivial)); (case aO => exact (rR_ HO_7.out)); (case aS => exact (below_size (hS_ GE283.out))); (case aL => have := LMc43.out; omega); intro v289 w50 ho hb hg hat; rw [← Ny288.out] at ho; have n_ := b_ (blk_grown (g := gb283) (o := .cells #[.string x284000_19, .int .i64 x284001_19] 69 (0, 0)) (rK_ BK283.out) hg (Kd.R_ne HO_7.out BK283.out (by decide))) <| b_ (hb) <| c_ (ho); clear HO_7 BK283 HB; obtain ⟨BK283, HB, HO290⟩ := n_; clear ho hb hg hat; obtain ⟨Ao51, co51, eo51⟩ := Kd.R_slice HO290.out; subst eo51)))
         go_roundg kj19
         case measure => have := HK1.out; have := HJ15.out; have := HJ19.out; omega
         case rel => exact ⟨(y288), (x9_19), (wrap64 (x10_1 + 1)), (x284000_19), (x284001_19), f0_, f0_, H', ⟨by have := HK1.out; have := HJ15.out; have := HJ19.out; omega⟩, ⟨rR_ HO290.out⟩, ⟨by refine kK_ ?_; exact BK283.out⟩, ⟨hS_ GE283.out⟩⟩
        rw [if_neg c42] at H
        have c42b0 := decide_eq_false c42
        clear c42
        by_cases c53 : (wrap64 ((wrap64 (Int.tdiv (wrap64 (bt x9_19 (ji33))) 16)) + (wrap64 (16 * (wrap64 (bt x9_19 (ji38))))))) < 3329
        rotate_left
        ·rw [if_neg c53] at H
         have c53b0 := decide_eq_false c53
         clear c53
         have H' := Aside0.mk H
         clear H
         have p32 := eq_true (oD_ : 0 ≤ ((ji29) : Int))
         have q32 := eq_true (oD_ : (ji29) < (x9_19.size : Int))
         have hx32 := bt_at x9_19 (ji29)
         have p36 := eq_true (oD_ : 0 ≤ ((ji33) : Int))
         have q36 := eq_true (oD_ : (ji33) < (x9_19.size : Int))
         have hx36 := bt_at x9_19 (ji33)
         have p37 := eq_true (oD_ : 0 ≤ ((ji33) : Int))
         have q37 := eq_true (oD_ : (ji33) < (x9_19.size : Int))
         have hx37 := bt_at x9_19 (ji33)
         have p41 := eq_true (oD_ : 0 ≤ ((ji38) : Int))
         have q41 := eq_true (oD_ : (ji38) < (x9_19.size : Int))
         have hx41 := bt_at x9_19 (ji38)
         go_wp2
         repeat (go_quiet (fail); try go_wp2)
         go_roundg kj19
         case measure => have := HK1.out; have := HJ15.out; have := HJ19.out; omega
         case rel => exact ⟨(x7_1), (x9_19), (wrap64 (x10_1 + 1)), (x284000_19), (x284001_19), f0_, f0_, H', ⟨by have := HK1.out; have := HJ15.out; have := HJ19.out; omega⟩, ⟨rR_ HO_7.out⟩, ⟨by refine kK_ ?_; exact BK283.out⟩, ⟨hS_ GE283.out⟩⟩
        rw [if_pos c53] at H
        have c53b0 := decide_eq_true c53
        clear c53
        by_cases c54 : (x7_1.length : Int) < 256
        ·rw [if_pos c54] at H
         have c54b0 := decide_eq_true c54
         have c54b1 : decide (x7_1.length < 256) = true := decide_eq_true (by omega)
         clear c54
         obtain ⟨c55, H⟩ := iN_ H
         have LMc55 := Aside0.mk c55
         clear c55
         obtain ⟨y294, hy294⟩ : ∃ y_ : List Int, y_ = (x7_1 ++ [wrap64 ((wrap64 (Int.tdiv (wrap64 (bt x9_19 (ji33))) 16)) + (wrap64 (16 * (wrap64 (bt x9_19 (ji38))))))]) := ⟨_, rfl⟩
         first | replace H := yb_ hy294 H | rw [← hy294] at H
         have Ny294 := Aside0.mk hy294
         clear hy294
         have H' := Aside0.mk H
         clear H
         have p32 := eq_true (oD_ : 0 ≤ ((ji29) : Int))
         have q32 := eq_true (oD_ : (ji29) < (x9_19.size : Int))
         have hx32 := bt_at x9_19 (ji29)
         have p36 := eq_true (oD_ : 0 ≤ ((ji33) : Int))
         have q36 := eq_true (oD_ : (ji33) < (x9_19.size : Int))
         have hx36 := bt_at x9_19 (ji33)
         have p37 := eq_true (oD_ : 0 ≤ ((ji33) : Int))
         have q37 := eq_true (oD_ : (ji33) < (x9_19.size : Int))
         have hx37 := bt_at x9_19 (ji33)
         have p41 := eq_true (oD_ : 0 ≤ ((ji38) : Int))
         have q41 := eq_true (oD_ : (ji38) < (x9_19.size : Int))
         have hx41 := bt_at x9_19 (ji38)
         obtain ⟨Ao56, co56, eo56⟩ := Kd.R_slice HO_7.out
         subst eo56
         go_wp2_with (first | ((with_reducible refine gate_builtin (b := .append) (xs := #[.tmp 84, .tmp 86]) rfl ?_); (try (refine gate_guard (by rfl) ?_; dsimp only)); at_builtin; refine Kd.R_append (Kd.int .i64) (w0 := w) w.heap.size rfl (.tmp 84) (.tmp 86) 31 3 (.int .i64 0) 8 rfl Tryd.underlying31 info3 rfl (by decide) (by omega) (.slice Ao56 x7_1.length co56) x7_1 (wrap64 ((wrap64 (Int.tdiv (wrap64 (bt x9_19 (ji33))) 16)) + (wrap64 (16 * (wrap64 (bt x9_19 (ji38))))))) [.int .i64 (wrap64 ((wrap64 (Int.tdiv (wrap64 (bt x9_19 (ji33))) 16)) + (wrap64 (16 * (wrap64 (bt x9_19 (ji38)))))))] (fun _ => True) (fun _ => False) rfl rfl ?aP (fun _ hk => hk.elim) ?aF ?aO ?aB ?aS ?aL ?_; (case aP => exact rfl); (case aB => exact (hS_ GE283.out)); (case aF => exact (fun _ _ => trivial)); (case aO => exact (rR_ HO_7.out)); (case aS => exact (below_size (hS_ GE283.out))); (case aL => have := LMc55.out; omega); intro v295 w57 ho hb hg hat; rw [← Ny294.out] at ho; have n_ := b_ (blk_grown (g := gb283) (o := .cells #[.string x284000_19, .int .i64 x284001_19] 69 (0, 0)) (rK_ BK283.out) hg (Kd.R_ne HO_7.out BK283.out (by decide))) <| b_ (hb) <| c_ (ho); clear HO_7 BK283 HB; obtain ⟨BK283, HB, HO296⟩ := n_; clear ho hb hg hat))
         repeat (go_quiet (first | ((with_reducible refine gate_builtin (b := .append) (xs := #[.tmp 84, .tmp 86]) rfl ?_); (try (refine gate_guard (by rfl) ?_; dsimp only)); at_builtin; refine Kd.R_append (Kd.int .i64) (w0 := w) w.heap.size rfl (.tmp 84) (.tmp 86) 31 3 (.int .i64 0) 8 rfl Tryd.underlying31 info3 rfl (by decide) (by omega) (.slice Ao56 x7_1.length co56) x7_1 (wrap64 ((wrap64 (Int.tdiv (wrap64 (bt x9_19 (ji33))) 16)) + (wrap64 (16 * (wrap64 (bt x9_19 (ji38))))))) [.int .i64 (wrap64 ((wrap64 (Int.tdiv (wrap64 (bt x9_19 (ji33))) 16)) + (wrap64 (16 * (wrap64 (bt x9_19 (ji38)))))))] (fun _ => True) (fun _ => False) rfl rfl ?aP (fun _ hk => hk.elim) ?aF ?aO ?aB ?aS ?aL ?_; (case aP => exact rfl); (case aB => exact (hS_ GE283.out)); (case aF => exact (fun _ _ => trivial)); (case aO => exact (rR_ HO_7.out)); (case aS => exact (below_size (hS_ GE283.out))); (case aL => have := LMc55.out; omega); intro v295 w57 ho hb hg hat; rw [← Ny294.out] at ho; have n_ := b_ (blk_grown (g := gb283) (o := .cells #[.string x284000_19, .int .i64 x284001_19] 69 (0, 0)) (rK_ BK283.out) hg (Kd.R_ne HO_7.out BK283.out (by decide))) <| b_ (hb) <| c_ (ho); clear HO_7 BK283 HB; obtain ⟨BK283, HB, HO296⟩ := n_; clear ho hb hg hat)); try go_wp2_with (first | ((with_reducible refine gate_builtin (b := .append) (xs := #[.tmp 84, .tmp 86]) rfl ?_); (try (refine gate_guard (by rfl) ?_; dsimp only)); at_builtin; refine Kd.R_append (Kd.int .i64) (w0 := w) w.heap.size rfl (.tmp 84) (.tmp 86) 31 3 (.int .i64 0) 8 rfl Tryd.underlying31 info3 rfl (by decide) (by omega) (.slice Ao56 x7_1.length co56) x7_1 (wrap64 ((wrap64 (Int.tdiv (wrap64 (bt x9_19 (ji33))) 16)) + (wrap64 (16 * (wrap64 (bt x9_19 (ji38))))))) [.int .i64 (wrap64 ((wrap64 (Int.tdiv (wrap64 (bt x9_19 (ji33))) 16)) + (wrap64 (16 * (wrap64 (bt x9_19 (ji38)))))))] (fun _ => True) (fun _ => False) rfl rfl ?aP (fun _ hk => hk.elim) ?aF ?aO ?aB ?aS ?aL ?_; (case aP => exact rfl); (case aB => exact (hS_ GE283.out)); (case aF => exact (fun _ _ => trivial)); (case aO => exact (rR_ HO_7.out)); (case aS => exact (below_size (hS_ GE283.out))); (case aL => have := LMc55.out; omega); intro v295 w57 ho hb hg hat; rw [← Ny294.out] at ho; have n_ := b_ (blk_grown (g := gb283) (o := .cells #[.string x284000_19, .int .i64 x284001_19] 69 (0, 0)) (rK_ BK283.out) hg (Kd.R_ne HO_7.out BK283.out (by decide))) <| b_ (hb) <| c_ (ho); clear HO_7 BK283 HB; obtain ⟨BK283, HB, HO296⟩ := n_; clear ho hb hg hat)))
         go_roundg kj19
         case measure => have := HK1.out; have := HJ15.out; have := HJ19.out; omega
         case rel => exact ⟨(y294), (x9_19), (wrap64 (x10_1 + 1)), (x284000_19), (x284001_19), f0_, f0_, H', ⟨by have := HK1.out; have := HJ15.out; have := HJ19.out; omega⟩, ⟨rR_ HO296.out⟩, ⟨by refine kK_ ?_; exact BK283.out⟩, ⟨hS_ GE283.out⟩⟩
        rw [if_neg c54] at H
        have c54b0 := decide_eq_false c54
        have c54b1 : decide (x7_1.length < 256) = false := decide_eq_false (by omega)
        clear c54
        have H' := Aside0.mk H
        clear H
        have p32 := eq_true (oD_ : 0 ≤ ((ji29) : Int))
        have q32 := eq_true (oD_ : (ji29) < (x9_19.size : Int))
        have hx32 := bt_at x9_19 (ji29)
        have p36 := eq_true (oD_ : 0 ≤ ((ji33) : Int))
        have q36 := eq_true (oD_ : (ji33) < (x9_19.size : Int))
        have hx36 := bt_at x9_19 (ji33)
        have p37 := eq_true (oD_ : 0 ≤ ((ji33) : Int))
        have q37 := eq_true (oD_ : (ji33) < (x9_19.size : Int))
        have hx37 := bt_at x9_19 (ji33)
        have p41 := eq_true (oD_ : 0 ≤ ((ji38) : Int))
        have q41 := eq_true (oD_ : (ji38) < (x9_19.size : Int))
        have hx41 := bt_at x9_19 (ji38)
        obtain ⟨Ao58, co58, eo58⟩ := Kd.R_slice HO_7.out
        subst eo58
        go_wp2
        repeat (go_quiet (fail); try go_wp2)
        go_roundg kj19
        case measure => have := HK1.out; have := HJ15.out; have := HJ19.out; omega
        case rel => exact ⟨(x7_1), (x9_19), (wrap64 (x10_1 + 1)), (x284000_19), (x284001_19), f0_, f0_, H', ⟨by have := HK1.out; have := HJ15.out; have := HJ19.out; omega⟩, ⟨rR_ HO_7.out⟩, ⟨by refine kK_ ?_; exact BK283.out⟩, ⟨hS_ GE283.out⟩⟩
     ·replace c19 := Bool.eq_false_iff.mpr c19
      subst c19
      replace H := iF_ H
      have H' := Aside0.mk H
      clear H
      go_wp2
      repeat (go_quiet (fail); try go_wp2)
      go_loopg [7] kj15 (fun kq v7 w' => ∃ (x7_3 : List Int), Aside0 (spec_Uniform.l1 kq x7_3 = some r) ∧ Aside0 (kq ≤ kj15) ∧ Aside0 (Kd.R (Kd.int .i64) 3 w' w.heap.size (fun _ => True) v7 x7_3) ∧ Aside0 (w'.heap[gb283]? = some (.cells #[.string x284000_1, .int .i64 x284001_1] 69 (0, 0))) ∧ Aside0 (Below w.heap.size w w'))
      case atStart => exact ⟨(x7_1), H', ⟨Nat.le_refl _⟩, ⟨rR_ HO_7.out⟩, ⟨by refine kK_ ?_; exact BK283.out⟩, ⟨hS_ GE283.out⟩⟩
      case round =>
       clear H'
       obtain ⟨x7_3, HA, HK3, HO_7, BK283, HB⟩ := hrel
       cases gk with
       | zero => exact absurd HA.out (by simp [spec_Uniform.l1])
       | succ k3 =>
        have H := HA.out
        clear HA
        simp only [spec_Uniform.l1] at H
        by_cases c59 : (x7_3.length : Int) < 256
        ·rw [if_pos c59] at H
         have c59b0 := decide_eq_true c59
         have c59b1 : decide (x7_3.length < 256) = true := decide_eq_true (by omega)
         clear c59
         obtain ⟨c60, H⟩ := iN_ H
         have LMc60 := Aside0.mk c60
         clear c60
         obtain ⟨y297, hy297⟩ : ∃ y_ : List Int, y_ = (x7_3 ++ [0]) := ⟨_, rfl⟩
         first | replace H := yb_ hy297 H | rw [← hy297] at H
         have Ny297 := Aside0.mk hy297
         clear hy297
         have H' := Aside0.mk H
         clear H
         obtain ⟨Ao61, co61, eo61⟩ := Kd.R_slice HO_7.out
         subst eo61
         go_wp2_with (first | ((with_reducible refine gate_builtin (b := .append) (xs := #[.tmp 91, .tmp 92]) rfl ?_); (try (refine gate_guard (by rfl) ?_; dsimp only)); at_builtin; refine Kd.R_append (Kd.int .i64) (w0 := w) w.heap.size rfl (.tmp 91) (.tmp 92) 31 3 (.int .i64 0) 8 rfl Tryd.underlying31 info3 rfl (by decide) (by omega) (.slice Ao61 x7_3.length co61) x7_3 0 [.int .i64 0] (fun _ => True) (fun _ => False) rfl rfl ?aP (fun _ hk => hk.elim) ?aF ?aO ?aB ?aS ?aL ?_; (case aP => exact rfl); (case aB => exact (hS_ GE283.out)); (case aF => exact (fun _ _ => trivial)); (case aO => exact (rR_ HO_7.out)); (case aS => exact (below_size (hS_ GE283.out))); (case aL => have := LMc60.out; omega); intro v298 w62 ho hb hg hat; rw [← Ny297.out] at ho; have n_ := b_ (blk_grown (g := gb283) (o := .cells #[.string x284000_1, .int .i64 x284001_1] 69 (0, 0)) (rK_ BK283.out) hg (Kd.R_ne HO_7.out BK283.out (by decide))) <| b_ (hb) <| c_ (ho); clear HO_7 BK283 HB; obtain ⟨BK283, HB, HO299⟩ := n_; clear ho hb hg hat))
         repeat (go_quiet (first | ((with_reducible refine gate_builtin (b := .append) (xs := #[.tmp 91, .tmp 92]) rfl ?_); (try (refine gate_guard (by rfl) ?_; dsimp only)); at_builtin; refine Kd.R_append (Kd.int .i64) (w0 := w) w.heap.size rfl (.tmp 91) (.tmp 92) 31 3 (.int .i64 0) 8 rfl Tryd.underlying31 info3 rfl (by decide) (by omega) (.slice Ao61 x7_3.length co61) x7_3 0 [.int .i64 0] (fun _ => True) (fun _ => False) rfl rfl ?aP (fun _ hk => hk.elim) ?aF ?aO ?aB ?aS ?aL ?_; (case aP => exact rfl); (case aB => exact (hS_ GE283.out)); (case aF => exact (fun _ _ => trivial)); (case aO => exact (rR_ HO_7.out)); (case aS => exact (below_size (hS_ GE283.out))); (case aL => have := LMc60.out; omega); intro v298 w62 ho hb hg hat; rw [← Ny297.out] at ho; have n_ := b_ (blk_grown (g := gb283) (o := .cells #[.string x284000_1, .int .i64 x284001_1] 69 (0, 0)) (rK_ BK283.out) hg (Kd.R_ne HO_7.out BK283.out (by decide))) <| b_ (hb) <| c_ (ho); clear HO_7 BK283 HB; obtain ⟨BK283, HB, HO299⟩ := n_; clear ho hb hg hat)); try go_wp2_with (first | ((with_reducible refine gate_builtin (b := .append) (xs := #[.tmp 91, .tmp 92]) rfl ?_); (try (refine gate_guard (by rfl) ?_; dsimp only)); at_builtin; refine Kd.R_append (Kd.int .i64) (w0 := w) w.heap.size rfl (.tmp 91) (.tmp 92) 31 3 (.int .i64 0) 8 rfl Tryd.underlying31 info3 rfl (by decide) (by omega) (.slice Ao61 x7_3.length co61) x7_3 0 [.int .i64 0] (fun _ => True) (fun _ => False) rfl rfl ?aP (fun _ hk => hk.elim) ?aF ?aO ?aB ?aS ?aL ?_; (case aP => exact rfl); (case aB => exact (hS_ GE283.out)); (case aF => exact (fun _ _ => trivial)); (case aO => exact (rR_ HO_7.out)); (case aS => exact (below_size (hS_ GE283.out))); (case aL => have := LMc60.out; omega); intro v298 w62 ho hb hg hat; rw [← Ny297.out] at ho; have n_ := b_ (blk_grown (g := gb283) (o := .cells #[.string x284000_1, .int .i64 x284001_1] 69 (0, 0)) (rK_ BK283.out) hg (Kd.R_ne HO_7.out BK283.out (by decide))) <| b_ (hb) <| c_ (ho); clear HO_7 BK283 HB; obtain ⟨BK283, HB, HO299⟩ := n_; clear ho hb hg hat)))
         go_roundg k3
         case measure => have := HK1.out; have := HJ15.out; have := HK3.out; omega
         case rel => exact ⟨(y297), H', ⟨by have := HK1.out; have := HJ15.out; have := HK3.out; omega⟩, ⟨rR_ HO299.out⟩, ⟨by refine kK_ ?_; exact BK283.out⟩, ⟨hS_ GE283.out⟩⟩
        rw [if_neg c59] at H
        have c59b0 := decide_eq_false c59
        have c59b1 : decide (x7_3.length < 256) = false := decide_eq_false (by omega)
        clear c59
        obtain rfl := Option.some.inj H
        obtain ⟨Ao63, co63, eo63⟩ := Kd.R_slice HO_7.out
        subst eo63
        go_wp2
        repeat (go_quiet (fail); try go_wp2)
        go_ret
        exact ⟨_, f1_, rR_ HO_7.out, hS_ GE283.out⟩

/-! ### spec_l13Matrix: function 8 -/
mutual
def spec_l13Matrix.l0 : Nat → ByteArray → List (List Int) → Int → Option ((List (List Int)))
 | 0, _, _, _ => none
 | k + 1, x0, x3, x4 => if x4 < 2 then (spec_l13Matrix.l1 k x0 x3 x4 0) else (some x3)
def spec_l13Matrix.l1 : Nat → ByteArray → List (List Int) → Int → Int → Option ((List (List Int)))
 | 0, _, _, _, _ => none
 | k + 1, x0, x3, x4, x5 => if x5 < 2 then ((spec_Uniform.f k x0 x5 x4).bind fun t303 => (if x3.length < 5864062014805 then (spec_l13Matrix.l1 k x0 (x3 ++ [t303]) x4 (wrap64 (x5 + 1))) else (none))) else (spec_l13Matrix.l0 k x0 x3 (wrap64 (x4 + 1)))
end
def spec_l13Matrix.f (k : Nat) (a0 : ByteArray) : Option ((List (List Int))) := spec_l13Matrix.l0 k a0 (([] : List (List Int))) 0
theorem spec_l13Matrix.mono_l : ∀ k, (∀ y0 y1 y2, LeO (spec_l13Matrix.l0 k y0 y1 y2) (spec_l13Matrix.l0 (k + 1) y0 y1 y2)) ∧ (∀ y0 y1 y2 y3, LeO (spec_l13Matrix.l1 k y0 y1 y2 y3) (spec_l13Matrix.l1 (k + 1) y0 y1 y2 y3))
 | 0 => ⟨fun _ _ _ r h => by simp [spec_l13Matrix.l0] at h, fun _ _ _ _ r h => by simp [spec_l13Matrix.l1] at h⟩
 | k + 1 => by
  obtain ⟨ih0, ih1⟩ := spec_l13Matrix.mono_l k
  refine ⟨?_, ?_⟩ <;> (intros; (first | unfold spec_l13Matrix.l0 | unfold spec_l13Matrix.l1); exact o3_ ih0 ih1 spec_Uniform.mono)
theorem spec_l13Matrix.mono : ∀ a0 k, LeO (spec_l13Matrix.f k a0) (spec_l13Matrix.f (k + 1) a0) := by
 intro a0 k
 obtain ⟨ih0, ih1⟩ := spec_l13Matrix.mono_l k
 unfold spec_l13Matrix.f
 exact o3_ ih0 ih1 spec_Uniform.mono
theorem spec_l13Matrix.calls (k : Nat) (a0 : ByteArray) (r : List (List Int)) (w : World) (h : spec_l13Matrix.f k a0 = some r) :
  Calls Tryd.prog 8 #[.string a0] w fun e w' => ∃ v0_ : Value, e = .returned (v0_) ∧ Kd.S (Kd.slice 3 (Kd.int .i64)) 31 w' w.heap.size (fun _ => True) v0_ r ∧ Below w.heap.size w w' := by
 have HB := Aside0.mk (Below.refl w.heap.size w)
 delta spec_l13Matrix.f at h
 have H := h
 clear h
 obtain ⟨y300, hy300⟩ : ∃ y_ : List (List Int), y_ = (([] : List (List Int))) := ⟨_, rfl⟩
 first | replace H := yb_ hy300 H | rw [← hy300] at H
 have Ny300 := Aside0.mk hy300
 clear hy300
 have H' := Aside0.mk H
 clear H
 go_enter Tryd.func8, Tryd.ntmps8
 go_wp2_with (first | ((with_reducible refine gate_dst (N := 6) rfl ?_); refine Kd.S_lit (Kd.slice 3 (Kd.int .i64)) _ 31 ?hg (N := 6) ?hd (xs := ([] : List (List Int))) (inner := []) (ok := fun _ => True) (okp := fun _ => True) ?hr ?hp (fun _ hk => hk) trivial (Below.refl _ _) (Nat.le_refl _) (by simp) ?_; (case hd => rfl); (case hg => rfl); (case hr => first | (go_simp; done) | (go_simp; rfl)); (case hp => exact (Reps.none _ _)); intro v301 w2 ho3 hb hg_ hnew_; clear hg_ hnew_; (first | rw [← Ny300.out] at ho3 | (simp only [Int.reduceToNat] at ho3; rw [← Ny300.out] at ho3)); have n_ := b_ (Kd.S_lower ho3 (below_size (hB_))) <| c_ (below_step (hB_) hb); clear HB; obtain ⟨HO302, HB⟩ := n_; clear hb ho3))
 go_loopg [3, 4] k (fun kq v3 v4 w' => ∃ (x3_1 : List (List Int)) (x4_1 : Int), v4 = .int .i64 x4_1 ∧ Aside0 (spec_l13Matrix.l0 kq a0 x3_1 x4_1 = some r) ∧ Aside0 (kq ≤ k) ∧ Aside0 (Kd.S (Kd.slice 3 (Kd.int .i64)) 31 w' w.heap.size (fun _ => True) v3 x3_1) ∧ Aside0 (Below w.heap.size w w'))
 case atStart => exact ⟨(y300), (0), f0_, H', ⟨Nat.le_refl _⟩, ⟨rS_ HO302.out⟩, ⟨hB_⟩⟩
 case round =>
  clear H'
  obtain ⟨x3_1, x4_1, rfl, HA, HK1, HO_3, HB⟩ := hrel
  cases gk with
  | zero => exact absurd HA.out (by simp [spec_l13Matrix.l0])
  | succ k1 =>
   have H := HA.out
   clear HA
   simp only [spec_l13Matrix.l0] at H
   by_cases c4 : x4_1 < 2
   rotate_left
   ·rw [if_neg c4] at H
    have c4b0 := decide_eq_false c4
    clear c4
    obtain rfl := Option.some.inj H
    go_wp2
    go_ret
    exact ⟨_, f1_, by refine kS_ ?_; exact HO_3.out, hB_⟩
   rw [if_pos c4] at H
   have c4b0 := decide_eq_true c4
   clear c4
   have H' := Aside0.mk H
   clear H
   go_wp2
   go_loopg [3, 5] k1 (fun kq v3 v5 w' => ∃ (x3_2 : List (List Int)) (x5_2 : Int), v5 = .int .i64 x5_2 ∧ Aside0 (spec_l13Matrix.l1 kq a0 x3_2 x4_1 x5_2 = some r) ∧ Aside0 (kq ≤ k1) ∧ Aside0 (Kd.S (Kd.slice 3 (Kd.int .i64)) 31 w' w.heap.size (fun _ => True) v3 x3_2) ∧ Aside0 (Below w.heap.size w w'))
   case atStart => exact ⟨(x3_1), (0), f0_, H', ⟨Nat.le_refl _⟩, ⟨rS_ HO_3.out⟩, ⟨hB_⟩⟩
   case round =>
    clear H'
    obtain ⟨x3_2, x5_2, rfl, HA, HK2, HO_3, HB⟩ := hrel
    cases gk with
    | zero => exact absurd HA.out (by simp [spec_l13Matrix.l1])
    | succ k2 =>
     have H := HA.out
     clear HA
     simp only [spec_l13Matrix.l1] at H
     by_cases c5 : x5_2 < 2
     ·rw [if_pos c5] at H
      have c5b0 := decide_eq_true c5
      clear c5
      obtain ⟨t303, A6, H⟩ := bN_ H
      obtain ⟨c7, H⟩ := iN_ H
      have LMc7 := Aside0.mk c7
      clear c7
      obtain ⟨y306, hy306⟩ : ∃ y_ : List (List Int), y_ = (x3_2 ++ [t303]) := ⟨_, rfl⟩
      first | replace H := yb_ hy306 H | rw [← hy306] at H
      have Ny306 := Aside0.mk hy306
      clear hy306
      have H' := Aside0.mk H
      clear H
      go_wp2_with (first | ((with_reducible refine gate_callee (f := 24) rfl ?_); refine goesL_ (some 19) rfl rfl Tryd.func24 (by kernel_rfl) rfl #[.string a0, .int .i64 x5_2, .int .i64 x4_1] rfl aM_ ?_; (with_reducible refine (spec_Uniform.calls k2 a0 x5_2 x4_1 t303 _ A6.out).mono ?_); rintro e w8 ⟨v304, rfl, ho0, hb⟩; refine ⟨_, rfl, ?_⟩; have n_ := b_ (Kd.S_elder' (rS_ HO_3.out) (Kd.R_base ho0) hb) <| b_ (Kd.R_lower ho0 (below_size (hB_))) <| c_ (below_step (hB_) hb); clear HO_3 HB; obtain ⟨HO_3, HO305, HB⟩ := n_; obtain ⟨Ao10, co10, eo10⟩ := Kd.R_slice HO305.out; subst eo10) | ((with_reducible refine gate_builtin (b := .append) (xs := #[.tmp 15, .tmp 20]) rfl ?_); at_builtin; refine Kd.S_append (Kd.slice 3 (Kd.int .i64)) (w0 := w) w.heap.size rfl (.tmp 15) (.tmp 20) 29 31 (.slice none 0 0) 24 rfl Tryd.underlying29 info31 rfl (by decide) (by omega) u3 x3_2 t303 [.slice Ao10 t303.length co10] (fun _ => True) (fun k_ => some k_ = (.slice Ao10 t303.length co10 : Value).ownBlock) rfl rfl ?aP (fun k_ hk_ => ((Kd.R_mono (ok' := fun k_ => ((fun _ => True)) k_ ∧ some k_ ≠ (u3 : Value).ownBlock) (Kd.R_apart' (HO305.out) (Kd.S_typed HO_3.out) (by decide)) (fun k_ hk => ⟨trivial, hk.2⟩))).1 k_ hk_.symm) ?aF ?aO ?aB ?aS ?aL ?_; (case aP => exact Kd.M_row (Kd.R_mono (Kd.R_tight rfl (Kd.R_mono (ok' := fun k_ => ((fun _ => True)) k_ ∧ some k_ ≠ (u3 : Value).ownBlock) (Kd.R_apart' (HO305.out) (Kd.S_typed HO_3.out) (by decide)) (fun k_ hk => ⟨trivial, hk.2⟩))) (fun _ h_ => h_))); (case aB => exact (hB_)); (case aF => exact (fun _ _ => trivial)); (case aO => exact (by refine kS_ ?_; exact Kd.S_mono HO_3.out (fun k_ hk => ⟨trivial, fun e_ => hk.2 e_⟩))); (case aS => exact (below_size (hB_))); (case aL => have := LMc7.out; omega); intro v307 w9 ho hb hg hat; rw [← Ny306.out] at ho; have n_ := b_ (hb) <| c_ (ho); clear HO_3 HO305 HB; obtain ⟨HB, HO308⟩ := n_; clear ho hb hg hat))
      go_roundg k2
      case measure => have := HK1.out; have := HK2.out; omega
      case rel => exact ⟨(y306), (wrap64 (x5_2 + 1)), f0_, H', ⟨by have := HK1.out; have := HK2.out; omega⟩, ⟨rS_ HO308.out⟩, ⟨hB_⟩⟩
     rw [if_neg c5] at H
     have c5b0 := decide_eq_false c5
     clear c5
     have H' := Aside0.mk H
     clear H
     go_wp2
     go_roundg k2
     case measure => have := HK1.out; have := HK2.out; omega
     case rel => exact ⟨(x3_2), (wrap64 (x4_1 + 1)), f0_, H', ⟨by have := HK1.out; have := HK2.out; omega⟩, ⟨rS_ HO_3.out⟩, ⟨hB_⟩⟩

/-! ### spec_ShakeOf: function 28 -/
def spec_ShakeOf.f (k : Nat) (a0 : ByteArray) (a1 : Int) : Option (ByteArray × Bool) := (spec_l01In.f a1 0 4000).bind fun t329 => (if t329 = true then ((spec_StreamNew.f k a0).bind fun bt330 => ((spec_StreamTake.f k bt330.1 bt330.2 a1).bind fun bt332 => (some (bt332.2.2, true)))) else (some ((⟨#[]⟩ : ByteArray), false)))
theorem spec_ShakeOf.mono : ∀ a0 a1 k, LeO (spec_ShakeOf.f k a0 a1) (spec_ShakeOf.f (k + 1) a0 a1) := by
 intro a0 a1 k
 unfold spec_ShakeOf.f
 exact o2_ spec_StreamNew.mono spec_StreamTake.mono
theorem spec_ShakeOf.calls (k : Nat) (a0 : ByteArray) (a1 : Int) (r1 : ByteArray) (r2 : Bool) (w : World) (h : spec_ShakeOf.f k a0 a1 = some (r1, r2)) :
  Calls Tryd.prog 28 #[.string a0, .int .i64 a1] w fun e w' => e = .returned (.tuple #[.string r1, .bool r2]) ∧ Below w.heap.size w w' := by
 have hu69 := Tryd.underlying69
 have HB := Aside0.mk (Below.refl w.heap.size w)
 delta spec_ShakeOf.f at h
 have H := h
 clear h
 obtain ⟨t329, A3, H⟩ := bN_ H
 by_cases c4 : t329 = true
 ·subst c4
  replace H := iT_ H
  obtain ⟨⟨t330, t331⟩, A5, H⟩ := bN_ H
  obtain ⟨⟨t332, t333, t334⟩, A6, H⟩ := bN_ H
  simp only [Option.some.injEq, Prod.mk.injEq] at H
  obtain ⟨rfl, rfl⟩ := H
  go_enter Tryd.func28, Tryd.ntmps28
  go_wp2_with (first | ((with_reducible refine gate_callee (f := 52) rfl ?_); refine goesL_ (some 9) rfl rfl Tryd.func52 (by kernel_rfl) rfl #[.int .i64 a1, .int .i64 0, .int .i64 4000] rfl aM_ ?_; (with_reducible refine (spec_l01In.calls a1 0 4000 true _ A3.out).mono ?_); rintro e w' ⟨rfl, ⟨nd, rfl⟩⟩; refine ⟨_, rfl, ?_⟩) | ((with_reducible refine gate_callee (f := 50) rfl ?_); refine goesL_ (some 13) rfl rfl Tryd.func50 (by kernel_rfl) rfl #[.string a0] rfl aM_ ?_; (with_reducible refine (spec_StreamNew.calls k a0 t330 t331 _ A5.out).mono ?_); rintro e w7 ⟨rfl, hb⟩; refine ⟨_, rfl, ?_⟩; replace HB := Aside0.mk (below_step (hB_) hb); (try clear hb)) | ((with_reducible refine gate_callee (f := 51) rfl ?_); refine goesL_ (some 15) rfl rfl Tryd.func51 (by kernel_rfl) rfl #[.agg #[.string t330, .int .i64 t331], .int .i64 a1] rfl aM_ ?_; (with_reducible refine (spec_StreamTake.calls k t330 t331 a1 t332 t333 t334 _ A6.out).mono ?_); rintro e w8 ⟨rfl, hb⟩; refine ⟨_, rfl, ?_⟩; replace HB := Aside0.mk (below_step (hB_) hb); (try clear hb)) | ((with_reducible refine gate_dst (N := 6) rfl ?_); refine box_event ?hg (N := 6) ?hd (cs := #[.string (⟨#[]⟩ : ByteArray), .int .i64 0]) (t := 69) ?hr ?_; (case hd => rfl); (case hg => rfl); (case hr => first | (go_simp; done) | (go_simp; rfl)); intro gb335 hg w9 hbox hb; have n_ := b_ (below_step (hB_) hb) <| b_ (hbox) <| b_ (by rw [hg]; exact (below_size (hB_)) : w.heap.size ≤ gb335) <| c_ (by rw [hg]; exact (below_size (hB_)) : w.heap.size ≤ gb335); clear HB; obtain ⟨HB, BK335, GW335, GE335⟩ := n_; clear hb hbox hg; have hcz10_0 : w9.cell? ⟨gb335, 0, none⟩ = some (.string (⟨#[]⟩ : ByteArray)) := (blk_cell BK335.out 0).trans rfl; have hcz10_1 : w9.cell? ⟨gb335, 1, none⟩ = some (.int .i64 0) := (blk_cell BK335.out 1).trans rfl; have hfz10_0 := blk_frozen BK335.out 0; have hfz10_1 := blk_frozen BK335.out 1))
  go_ret2
  exact ⟨f1_, hS_ GE335.out⟩
 ·replace c4 := Bool.eq_false_iff.mpr c4
  subst c4
  replace H := iF_ H
  simp only [Option.some.injEq, Prod.mk.injEq] at H
  obtain ⟨rfl, rfl⟩ := H
  go_enter Tryd.func28, Tryd.ntmps28
  go_wp2_with (first | ((with_reducible refine gate_callee (f := 52) rfl ?_); refine goesL_ (some 9) rfl rfl Tryd.func52 (by kernel_rfl) rfl #[.int .i64 a1, .int .i64 0, .int .i64 4000] rfl aM_ ?_; (with_reducible refine (spec_l01In.calls a1 0 4000 false _ A3.out).mono ?_); rintro e w' ⟨rfl, ⟨nd, rfl⟩⟩; refine ⟨_, rfl, ?_⟩))
  go_ret2
  exact ⟨f1_, hB_⟩

/-! ### spec_Small: function 10 -/
def spec_Small.l0 : Nat → List Int → ByteArray → Int → Option (List Int)
 | 0, _, _, _ => none
 | k + 1, x5, x6, x8 => if x8 < 256 then (if 0 ≤ (wrap64 (Int.tdiv x8 2)) then (if (wrap64 (Int.tdiv x8 2)) < (x6.size : Int) then (if (Int.tmod x8 2) = 1 then (if x5.length < 17592186044416 then (spec_Small.l0 k (x5 ++ [Int.tmod (wrap64 ((wrap64 ((wrap64 ((wrap64 ((Int.tmod (wrap64 (Int.tdiv (wrap64 (bt x6 (wrap64 (Int.tdiv x8 2)))) 16)) 2) + (Int.tmod (wrap64 (Int.tdiv (wrap64 (Int.tdiv (wrap64 (bt x6 (wrap64 (Int.tdiv x8 2)))) 16)) 2)) 2))) - (Int.tmod (wrap64 (Int.tdiv (wrap64 (Int.tdiv (wrap64 (bt x6 (wrap64 (Int.tdiv x8 2)))) 16)) 4)) 2))) - (Int.tmod (wrap64 (Int.tdiv (wrap64 (Int.tdiv (wrap64 (bt x6 (wrap64 (Int.tdiv x8 2)))) 16)) 8)) 2))) + 3329)) 3329]) x6 (wrap64 (x8 + 1))) else (none)) else (if x5.length < 17592186044416 then (spec_Small.l0 k (x5 ++ [Int.tmod (wrap64 ((wrap64 ((wrap64 ((wrap64 ((Int.tmod (wrap64 (bt x6 (wrap64 (Int.tdiv x8 2)))) 2) + (Int.tmod (wrap64 (Int.tdiv (wrap64 (bt x6 (wrap64 (Int.tdiv x8 2)))) 2)) 2))) - (Int.tmod (wrap64 (Int.tdiv (wrap64 (bt x6 (wrap64 (Int.tdiv x8 2)))) 4)) 2))) - (Int.tmod (wrap64 (Int.tdiv (wrap64 (bt x6 (wrap64 (Int.tdiv x8 2)))) 8)) 2))) + 3329)) 3329]) x6 (wrap64 (x8 + 1))) else (none))) else (none)) else (none)) else (some x5)
def spec_Small.f (k : Nat) (a0 : ByteArray) (a1 : Int) : Option (List Int) := (spec_l06Byte.f a1).bind fun t339 => (if a0.size + t339.size ≤ 9223372036854775807 then ((spec_ShakeOf.f k (a0 ++ t339) 128).bind fun bt340 => (spec_Small.l0 k (([] : List Int)) bt340.1 0)) else (none))
theorem spec_Small.mono_l : ∀ k, (∀ y0 y1 y2, LeO (spec_Small.l0 k y0 y1 y2) (spec_Small.l0 (k + 1) y0 y1 y2))
 | 0 => fun _ _ _ r h => by simp [spec_Small.l0] at h
 | k + 1 => by
  have ih0 := spec_Small.mono_l k
  intros; unfold spec_Small.l0; exact o2_ ih0 spec_ShakeOf.mono
theorem spec_Small.mono : ∀ a0 a1 k, LeO (spec_Small.f k a0 a1) (spec_Small.f (k + 1) a0 a1) := by
 intro a0 a1 k
 have ih0 := spec_Small.mono_l k
 unfold spec_Small.f
 exact o2_ ih0 spec_ShakeOf.mono
theorem spec_Small.calls (k : Nat) (a0 : ByteArray) (a1 : Int) (r : List Int) (w : World) (h : spec_Small.f k a0 a1 = some r) :
  Calls Tryd.prog 10 #[.string a0, .int .i64 a1] w fun e w' => ∃ v0_ : Value, e = .returned (v0_) ∧ Kd.R (Kd.int .i64) 3 w' w.heap.size (fun _ => True) v0_ r ∧ Below w.heap.size w w' := by
 have HB := Aside0.mk (Below.refl w.heap.size w)
 delta spec_Small.f at h
 have H := h
 clear h
 obtain ⟨y336, hy336⟩ : ∃ y_ : List Int, y_ = (([] : List Int)) := ⟨_, rfl⟩
 first | replace H := yb_ hy336 H | rw [← hy336] at H
 have Ny336 := Aside0.mk hy336
 clear hy336
 obtain ⟨t339, A3, H⟩ := bN_ H
 obtain ⟨c4, H⟩ := iN_ H
 have c4b0 := eq_true c4
 have c4b1 := decide_eq_true c4
 try have c4b2 : (9223372036854775807 < a0.size + t339.size) = False := eq_false (Nat.not_lt.2 c4)
 obtain ⟨⟨t340, t341⟩, A5, H⟩ := bN_ H
 have H' := Aside0.mk H
 clear H
 go_enter Tryd.func10, Tryd.ntmps10
 go_wp2_with (first | ((with_reducible refine gate_dst (N := 10) rfl ?_); refine Kd.R_lit (Kd.int .i64) _ 3 ?hg (N := 10) ?hd (xs := ([] : List Int)) (inner := []) (ok := fun _ => True) (okp := fun _ => True) ?hr ?hp (fun _ hk => hk) trivial (Below.refl _ _) (Nat.le_refl _) (by simp) ?_; (case hd => rfl); (case hg => rfl); (case hr => first | (go_simp; done) | (go_simp; rfl)); (case hp => exact (Reps.none _ _)); intro v337 w6 ho7 hb hg_ hnew_; clear hg_ hnew_; (first | rw [← Ny336.out] at ho7 | (simp only [Int.reduceToNat] at ho7; rw [← Ny336.out] at ho7)); have n_ := b_ (Kd.R_lower ho7 (below_size (hB_))) <| c_ (below_step (hB_) hb); clear HB; obtain ⟨HO338, HB⟩ := n_; clear hb ho7) | ((with_reducible refine gate_callee (f := 29) rfl ?_); refine goesL_ (some 14) rfl rfl Tryd.func29 (by kernel_rfl) rfl #[.int .i64 a1] rfl aM_ ?_; (with_reducible refine (spec_l06Byte.calls a1 t339 _ A3.out).mono ?_); rintro e w8 ⟨rfl, hb⟩; refine ⟨_, rfl, ?_⟩; have n_ := b_ (Kd.R_below (rR_ HO338.out) hb) <| c_ (below_step (hB_) hb); clear HO338 HB; obtain ⟨HO338, HB⟩ := n_; (try clear hb)) | ((with_reducible refine gate_callee (f := 28) rfl ?_); refine goesL_ (some 16) rfl rfl Tryd.func28 (by kernel_rfl) rfl #[.string (a0 ++ t339), .int .i64 128] rfl aM_ ?_; (with_reducible refine (spec_ShakeOf.calls k (a0 ++ t339) 128 t340 t341 _ A5.out).mono ?_); rintro e w9 ⟨rfl, hb⟩; refine ⟨_, rfl, ?_⟩; have n_ := b_ (Kd.R_below (rR_ HO338.out) hb) <| c_ (below_step (hB_) hb); clear HO338 HB; obtain ⟨HO338, HB⟩ := n_; (try clear hb)))
 go_loopg [5, 8] k (fun kq v5 v8 w' => ∃ (x5_1 : List Int) (x8_1 : Int), v8 = .int .i64 x8_1 ∧ Aside0 (spec_Small.l0 kq x5_1 t340 x8_1 = some r) ∧ Aside0 (kq ≤ k) ∧ Aside0 (Kd.R (Kd.int .i64) 3 w' w.heap.size (fun _ => True) v5 x5_1) ∧ Aside0 (Below w.heap.size w w'))
 case atStart => exact ⟨(y336), (0), f0_, H', ⟨Nat.le_refl _⟩, ⟨rR_ HO338.out⟩, ⟨hB_⟩⟩
 case round =>
  clear H'
  obtain ⟨x5_1, x8_1, rfl, HA, HK1, HO_5, HB⟩ := hrel
  cases gk with
  | zero => exact absurd HA.out (by simp [spec_Small.l0])
  | succ k1 =>
   have H := HA.out
   clear HA
   simp only [spec_Small.l0] at H
   by_cases c10 : x8_1 < 256
   rotate_left
   ·rw [if_neg c10] at H
    have c10b0 := decide_eq_false c10
    clear c10
    obtain rfl := Option.some.inj H
    go_wp2
    go_ret
    exact ⟨_, f1_, rR_ HO_5.out, hB_⟩
   rw [if_pos c10] at H
   have c10b0 := decide_eq_true c10
   clear c10
   obtain ⟨ji11, hji11⟩ : ∃ j_ : Int, (wrap64 (Int.tdiv x8_1 2)) = j_ := ⟨_, rfl⟩
   first | rw [hji11] at H | simp only [hji11] at H
   have hji11w : (IntKind.i64.wrap (Int.tdiv x8_1 2)) = ji11 := (i64_w _).trans hji11
   obtain ⟨c12b0, H⟩ := iD_ H
   obtain ⟨c13b0, H⟩ := iD_ H
   by_cases c15 : (Int.tmod x8_1 2) = 1
   ·rw [if_pos c15] at H
    have c15b0 : ((Int.tmod x8_1 2) == 1) = true := beq_iff_eq.mpr c15
    have c15b1 : ((Int.tmod x8_1 2) != 1) = false := bne_eq_false_iff_eq.mpr c15
    clear c15
    obtain ⟨c16, H⟩ := iN_ H
    have LMc16 := Aside0.mk c16
    clear c16
    obtain ⟨y342, hy342⟩ : ∃ y_ : List Int, y_ = (x5_1 ++ [Int.tmod (wrap64 ((wrap64 ((wrap64 ((wrap64 ((Int.tmod (wrap64 (Int.tdiv (wrap64 (bt t340 (ji11))) 16)) 2) + (Int.tmod (wrap64 (Int.tdiv (wrap64 (Int.tdiv (wrap64 (bt t340 (ji11))) 16)) 2)) 2))) - (Int.tmod (wrap64 (Int.tdiv (wrap64 (Int.tdiv (wrap64 (bt t340 (ji11))) 16)) 4)) 2))) - (Int.tmod (wrap64 (Int.tdiv (wrap64 (Int.tdiv (wrap64 (bt t340 (ji11))) 16)) 8)) 2))) + 3329)) 3329]) := ⟨_, rfl⟩
    first | replace H := yb_ hy342 H | rw [← hy342] at H
    have Ny342 := Aside0.mk hy342
    clear hy342
    have H' := Aside0.mk H
    clear H
    have p14 := eq_true (oD_ : 0 ≤ ((ji11) : Int))
    have q14 := eq_true (oD_ : (ji11) < (t340.size : Int))
    have hx14 := bt_at t340 (ji11)
    go_wp2_with (first | ((with_reducible refine gate_builtin (b := .append) (xs := #[.tmp 33, .tmp 50]) rfl ?_); at_builtin; refine Kd.R_append (Kd.int .i64) (w0 := w) w.heap.size rfl (.tmp 33) (.tmp 50) 31 3 (.int .i64 0) 8 rfl Tryd.underlying31 info3 rfl (by decide) (by omega) u5 x5_1 (Int.tmod (wrap64 ((wrap64 ((wrap64 ((wrap64 ((Int.tmod (wrap64 (Int.tdiv (wrap64 (bt t340 (ji11))) 16)) 2) + (Int.tmod (wrap64 (Int.tdiv (wrap64 (Int.tdiv (wrap64 (bt t340 (ji11))) 16)) 2)) 2))) - (Int.tmod (wrap64 (Int.tdiv (wrap64 (Int.tdiv (wrap64 (bt t340 (ji11))) 16)) 4)) 2))) - (Int.tmod (wrap64 (Int.tdiv (wrap64 (Int.tdiv (wrap64 (bt t340 (ji11))) 16)) 8)) 2))) + 3329)) 3329) [.int .i64 (Int.tmod (wrap64 ((wrap64 ((wrap64 ((wrap64 ((Int.tmod (wrap64 (Int.tdiv (wrap64 (bt t340 (ji11))) 16)) 2) + (Int.tmod (wrap64 (Int.tdiv (wrap64 (Int.tdiv (wrap64 (bt t340 (ji11))) 16)) 2)) 2))) - (Int.tmod (wrap64 (Int.tdiv (wrap64 (Int.tdiv (wrap64 (bt t340 (ji11))) 16)) 4)) 2))) - (Int.tmod (wrap64 (Int.tdiv (wrap64 (Int.tdiv (wrap64 (bt t340 (ji11))) 16)) 8)) 2))) + 3329)) 3329)] (fun _ => True) (fun _ => False) rfl rfl ?aP (fun _ hk => hk.elim) ?aF ?aO ?aB ?aS ?aL ?_; (case aP => exact rfl); (case aB => exact (hB_)); (case aF => exact (fun _ _ => trivial)); (case aO => exact (rR_ HO_5.out)); (case aS => exact (below_size (hB_))); (case aL => have := LMc16.out; omega); intro v343 w17 ho hb hg hat; rw [← Ny342.out] at ho; have n_ := b_ (hb) <| c_ (ho); clear HO_5 HB; obtain ⟨HB, HO344⟩ := n_; clear ho hb hg hat))
    go_roundg k1
    case measure => have := HK1.out; omega
    case rel => exact ⟨(y342), (wrap64 (x8_1 + 1)), f0_, H', ⟨by have := HK1.out; omega⟩, ⟨rR_ HO344.out⟩, ⟨hB_⟩⟩
   rw [if_neg c15] at H
   have c15b0 : ((Int.tmod x8_1 2) == 1) = false := beq_eq_false_iff_ne.mpr c15
   have c15b1 : ((Int.tmod x8_1 2) != 1) = true := bne_iff_ne.mpr c15
   obtain ⟨c18, H⟩ := iN_ H
   have LMc18 := Aside0.mk c18
   clear c18
   obtain ⟨y345, hy345⟩ : ∃ y_ : List Int, y_ = (x5_1 ++ [Int.tmod (wrap64 ((wrap64 ((wrap64 ((wrap64 ((Int.tmod (wrap64 (bt t340 (ji11))) 2) + (Int.tmod (wrap64 (Int.tdiv (wrap64 (bt t340 (ji11))) 2)) 2))) - (Int.tmod (wrap64 (Int.tdiv (wrap64 (bt t340 (ji11))) 4)) 2))) - (Int.tmod (wrap64 (Int.tdiv (wrap64 (bt t340 (ji11))) 8)) 2))) + 3329)) 3329]) := ⟨_, rfl⟩
   first | replace H := yb_ hy345 H | rw [← hy345] at H
   have Ny345 := Aside0.mk hy345
   clear hy345
   have H' := Aside0.mk H
   clear H
   have p14 := eq_true (oD_ : 0 ≤ ((ji11) : Int))
   have q14 := eq_true (oD_ : (ji11) < (t340.size : Int))
   have hx14 := bt_at t340 (ji11)
   go_wp2_with (first | ((with_reducible refine gate_builtin (b := .append) (xs := #[.tmp 33, .tmp 50]) rfl ?_); at_builtin; refine Kd.R_append (Kd.int .i64) (w0 := w) w.heap.size rfl (.tmp 33) (.tmp 50) 31 3 (.int .i64 0) 8 rfl Tryd.underlying31 info3 rfl (by decide) (by omega) u5 x5_1 (Int.tmod (wrap64 ((wrap64 ((wrap64 ((wrap64 ((Int.tmod (wrap64 (bt t340 (ji11))) 2) + (Int.tmod (wrap64 (Int.tdiv (wrap64 (bt t340 (ji11))) 2)) 2))) - (Int.tmod (wrap64 (Int.tdiv (wrap64 (bt t340 (ji11))) 4)) 2))) - (Int.tmod (wrap64 (Int.tdiv (wrap64 (bt t340 (ji11))) 8)) 2))) + 3329)) 3329) [.int .i64 (Int.tmod (wrap64 ((wrap64 ((wrap64 ((wrap64 ((Int.tmod (wrap64 (bt t340 (ji11))) 2) + (Int.tmod (wrap64 (Int.tdiv (wrap64 (bt t340 (ji11))) 2)) 2))) - (Int.tmod (wrap64 (Int.tdiv (wrap64 (bt t340 (ji11))) 4)) 2))) - (Int.tmod (wrap64 (Int.tdiv (wrap64 (bt t340 (ji11))) 8)) 2))) + 3329)) 3329)] (fun _ => True) (fun _ => False) rfl rfl ?aP (fun _ hk => hk.elim) ?aF ?aO ?aB ?aS ?aL ?_; (case aP => exact rfl); (case aB => exact (hB_)); (case aF => exact (fun _ _ => trivial)); (case aO => exact (rR_ HO_5.out)); (case aS => exact (below_size (hB_))); (case aL => have := LMc18.out; omega); intro v346 w19 ho hb hg hat; rw [← Ny345.out] at ho; have n_ := b_ (hb) <| c_ (ho); clear HO_5 HB; obtain ⟨HB, HO347⟩ := n_; clear ho hb hg hat))
   go_roundg k1
   case measure => have := HK1.out; omega
   case rel => exact ⟨(y345), (wrap64 (x8_1 + 1)), f0_, H', ⟨by have := HK1.out; omega⟩, ⟨rR_ HO347.out⟩, ⟨hB_⟩⟩

end Go.Proofs.YthdjmbbkenbeiaaDoor.P
