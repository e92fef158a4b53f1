-- printed texts of this session, regrouped
import Derived.Test.YtnckhligcdieaaaMW6
import Derived.Test.YtnckhligcdieaaaHB6
import Derived.Test.YtnckhligcdieaaaPx0
import Derived.Test.YtnckhligcdieaaaPx2
import Derived.Test.YtnckhligcdieaaaPx16
namespace Go.Proofs.Ytnckhligcdieaaa.P
open Go.RowKit Go.Proofs.YtnckhligcdieaaaW.PrintWords Go.Proofs.YtnckhligcdieaaaW.PrintLast Go.Proofs.YtnckhligcdieaaaW.PrintMore
attribute [local go_sem] max2_int min2_int max_two min_two max_three min_three max_four min_four   -- for this text's walks alone
set_option linter.unusedVariables false
set_option linter.unusedSimpArgs false

/-! ### spec_Uniform: function 13 -/
set_option maxRecDepth 100000 in
mutual
def spec_Uniform.l0 : Nat → List Int → ByteArray → Int → ByteArray → Int → Option (List Int)
 | 0, _, _, _, _, _ => none
 | k + 1, x7, x9, x10, x249000, x249001 => if x10 < 4000 then (spec_Uniform.j1 k x7 x9 x10 (decide ((x7.length : Int) < 256)) x249000 x249001) else (spec_Uniform.j1 k x7 x9 x10 false x249000 x249001)
def spec_Uniform.j1 : Nat → List Int → ByteArray → Int → Bool → ByteArray → Int → Option (List Int)
 | 0, _, _, _, _, _, _ => none
 | k + 1, x7, x9, x10, x31, x249000, x249001 => if x31 = true then (if (wrap64 ((Int.tmod x10 56) * 3)) = 0 then ((spec_StreamTake.f k x249000 x249001 168).bind fun bt249 => (spec_Uniform.j2 k x7 bt249.2.2 x10 (wrap64 ((Int.tmod x10 56) * 3)) bt249.1 bt249.2.1)) else (spec_Uniform.j2 k x7 x9 x10 (wrap64 ((Int.tmod x10 56) * 3)) x249000 x249001)) else (spec_Uniform.l1 k x7)
def spec_Uniform.j2 : Nat → List Int → ByteArray → Int → Int → ByteArray → Int → Option (List Int)
 | 0, _, _, _, _, _, _ => none
 | k + 1, x7, x9, x10, x11, x249000, x249001 => if 0 ≤ x11 then (if x11 < (x9.size : Int) then (if 0 ≤ (wrap64 (x11 + 1)) then (if (wrap64 (x11 + 1)) < (x9.size : Int) then (if 0 ≤ (wrap64 (x11 + 2)) then (if (wrap64 (x11 + 2)) < (x9.size : Int) then (if (wrap64 ((wrap64 (bt x9 x11)) + (wrap64 (256 * (Int.tmod (wrap64 (bt x9 (wrap64 (x11 + 1)))) 16))))) < 3329 then (if x7.length < 17592186044416 then ((some (x7 ++ [wrap64 ((wrap64 (bt x9 x11)) + (wrap64 (256 * (Int.tmod (wrap64 (bt x9 (wrap64 (x11 + 1)))) 16))))] : List Int)).bind fun y253 => (if (wrap64 ((wrap64 (Int.tdiv (wrap64 (bt x9 (wrap64 (x11 + 1)))) 16)) + (wrap64 (16 * (wrap64 (bt x9 (wrap64 (x11 + 2)))))))) < 3329 then (if (y253.length : Int) < 256 then (if y253.length < 17592186044416 then (spec_Uniform.l0 k (y253 ++ [wrap64 ((wrap64 (Int.tdiv (wrap64 (bt x9 (wrap64 (x11 + 1)))) 16)) + (wrap64 (16 * (wrap64 (bt x9 (wrap64 (x11 + 2)))))))]) x9 (wrap64 (x10 + 1)) x249000 x249001) else (none)) else (spec_Uniform.l0 k y253 x9 (wrap64 (x10 + 1)) x249000 x249001)) else (spec_Uniform.l0 k y253 x9 (wrap64 (x10 + 1)) x249000 x249001))) else (none)) else (if (wrap64 ((wrap64 (Int.tdiv (wrap64 (bt x9 (wrap64 (x11 + 1)))) 16)) + (wrap64 (16 * (wrap64 (bt x9 (wrap64 (x11 + 2)))))))) < 3329 then (if (x7.length : Int) < 256 then (if x7.length < 17592186044416 then (spec_Uniform.l0 k (x7 ++ [wrap64 ((wrap64 (Int.tdiv (wrap64 (bt x9 (wrap64 (x11 + 1)))) 16)) + (wrap64 (16 * (wrap64 (bt x9 (wrap64 (x11 + 2)))))))]) x9 (wrap64 (x10 + 1)) x249000 x249001) else (none)) else (spec_Uniform.l0 k x7 x9 (wrap64 (x10 + 1)) x249000 x249001)) else (spec_Uniform.l0 k x7 x9 (wrap64 (x10 + 1)) x249000 x249001))) else (none)) else (none)) else (none)) else (none)) else (none)) else (none)
def spec_Uniform.l1 : Nat → List Int → Option (List Int)
 | 0, _ => none
 | k + 1, x7 => if (x7.length : Int) < 256 then (if x7.length < 17592186044416 then (spec_Uniform.l1 k (x7 ++ [0])) else (none)) else (some x7)
end
def spec_Uniform.f (k : Nat) (a0 : ByteArray) (a1 : Int) (a2 : Int) : Option (List Int) := (spec_l06Byte.f a1).bind fun t244 => (if a0.size + t244.size ≤ 9223372036854775807 then ((spec_l06Byte.f a2).bind fun t245 => (if (a0 ++ t244).size + t245.size ≤ 9223372036854775807 then ((spec_StreamNew.f k ((a0 ++ t244) ++ t245)).bind fun bt246 => (spec_Uniform.l0 k (([] : List Int)) (⟨#[]⟩ : ByteArray) 0 bt246.1 bt246.2)) else (none))) else (none))
set_option maxRecDepth 100000 in
theorem spec_Uniform.mono_l : ∀ k, (∀ y0 y1 y2 y3 y4, LeO (spec_Uniform.l0 k y0 y1 y2 y3 y4) (spec_Uniform.l0 (k + 1) y0 y1 y2 y3 y4)) ∧ (∀ y0 y1 y2 y3 y4 y5, LeO (spec_Uniform.j1 k y0 y1 y2 y3 y4 y5) (spec_Uniform.j1 (k + 1) y0 y1 y2 y3 y4 y5)) ∧ (∀ y0 y1 y2 y3 y4 y5, LeO (spec_Uniform.j2 k y0 y1 y2 y3 y4 y5) (spec_Uniform.j2 (k + 1) y0 y1 y2 y3 y4 y5)) ∧ (∀ y0, LeO (spec_Uniform.l1 k y0) (spec_Uniform.l1 (k + 1) y0))
 | 0 => ⟨fun _ _ _ _ _ r h => by simp [spec_Uniform.l0] at h, fun _ _ _ _ _ _ r h => by simp [spec_Uniform.j1] at h, fun _ _ _ _ _ _ r h => by simp [spec_Uniform.j2] at h, fun _ r h => by simp [spec_Uniform.l1] at h⟩
 | k + 1 => by
  obtain ⟨ih0, ih1, ih2, ih3⟩ := spec_Uniform.mono_l k
  refine ⟨?_, ?_, ?_, ?_⟩
  ·intro y0 y1 y2 y3 y4
   unfold spec_Uniform.l0
   repeat' first
   | (with_reducible exact ih0 _ _ _ _ _)
   | (with_reducible exact ih1 _ _ _ _ _ _)
   | (with_reducible exact ih2 _ _ _ _ _ _)
   | (with_reducible exact ih3 _)
   | (with_reducible exact spec_StreamNew.mono _ _)
   | (with_reducible exact spec_StreamTake.mono _ _ _ _)
   | (with_reducible exact LeO.refl _)
   | (with_reducible exact LeO.none _)
   | (with_reducible refine LeO.ite ?_ ?_)
   | (with_reducible refine LeO.bind ?_ (fun _ => ?_))
   | exact ih0 _ _ _ _ _
   | exact ih1 _ _ _ _ _ _
   | exact ih2 _ _ _ _ _ _
   | exact ih3 _
   | exact spec_StreamNew.mono _ _
   | exact spec_StreamTake.mono _ _ _ _
   | exact LeO.none _
   | refine LeO.ite ?_ ?_
   | refine LeO.bind ?_ (fun _ => ?_)
  ·intro y0 y1 y2 y3 y4 y5
   unfold spec_Uniform.j1
   repeat' first
   | (with_reducible exact ih0 _ _ _ _ _)
   | (with_reducible exact ih1 _ _ _ _ _ _)
   | (with_reducible exact ih2 _ _ _ _ _ _)
   | (with_reducible exact ih3 _)
   | (with_reducible exact spec_StreamNew.mono _ _)
   | (with_reducible exact spec_StreamTake.mono _ _ _ _)
   | (with_reducible exact LeO.refl _)
   | (with_reducible exact LeO.none _)
   | (with_reducible refine LeO.ite ?_ ?_)
   | (with_reducible refine LeO.bind ?_ (fun _ => ?_))
   | exact ih0 _ _ _ _ _
   | exact ih1 _ _ _ _ _ _
   | exact ih2 _ _ _ _ _ _
   | exact ih3 _
   | exact spec_StreamNew.mono _ _
   | exact spec_StreamTake.mono _ _ _ _
   | exact LeO.none _
   | refine LeO.ite ?_ ?_
   | refine LeO.bind ?_ (fun _ => ?_)
  ·intro y0 y1 y2 y3 y4 y5
   unfold spec_Uniform.j2
   repeat' first
   | (with_reducible exact ih0 _ _ _ _ _)
   | (with_reducible exact ih1 _ _ _ _ _ _)
   | (with_reducible exact ih2 _ _ _ _ _ _)
   | (with_reducible exact ih3 _)
   | (with_reducible exact spec_StreamNew.mono _ _)
   | (with_reducible exact spec_StreamTake.mono _ _ _ _)
   | (with_reducible exact LeO.refl _)
   | (with_reducible exact LeO.none _)
   | (with_reducible refine LeO.ite ?_ ?_)
   | (with_reducible refine LeO.bind ?_ (fun _ => ?_))
   | exact ih0 _ _ _ _ _
   | exact ih1 _ _ _ _ _ _
   | exact ih2 _ _ _ _ _ _
   | exact ih3 _
   | exact spec_StreamNew.mono _ _
   | exact spec_StreamTake.mono _ _ _ _
   | exact LeO.none _
   | refine LeO.ite ?_ ?_
   | refine LeO.bind ?_ (fun _ => ?_)
  ·intro y0
   unfold spec_Uniform.l1
   repeat' first
   | (with_reducible exact ih0 _ _ _ _ _)
   | (with_reducible exact ih1 _ _ _ _ _ _)
   | (with_reducible exact ih2 _ _ _ _ _ _)
   | (with_reducible exact ih3 _)
   | (with_reducible exact spec_StreamNew.mono _ _)
   | (with_reducible exact spec_StreamTake.mono _ _ _ _)
   | (with_reducible exact LeO.refl _)
   | (with_reducible exact LeO.none _)
   | (with_reducible refine LeO.ite ?_ ?_)
   | (with_reducible refine LeO.bind ?_ (fun _ => ?_))
   | exact ih0 _ _ _ _ _
   | exact ih1 _ _ _ _ _ _
   | exact ih2 _ _ _ _ _ _
   | exact ih3 _
   | exact spec_StreamNew.mono _ _
   | exact spec_StreamTake.mono _ _ _ _
   | exact LeO.none _
   | refine LeO.ite ?_ ?_
   | refine LeO.bind ?_ (fun _ => ?_)
theorem spec_Uniform.mono : ∀ a0 a1 a2 k, LeO (spec_Uniform.f k a0 a1 a2) (spec_Uniform.f (k + 1) a0 a1 a2) := by
 intro a0 a1 a2 k
 obtain ⟨ih0, ih1, ih2, ih3⟩ := spec_Uniform.mono_l k
 unfold spec_Uniform.f
 repeat' first
   | (with_reducible exact ih0 _ _ _ _ _)
   | (with_reducible exact ih1 _ _ _ _ _ _)
   | (with_reducible exact ih2 _ _ _ _ _ _)
   | (with_reducible exact ih3 _)
   | (with_reducible exact spec_StreamNew.mono _ _)
   | (with_reducible exact spec_StreamTake.mono _ _ _ _)
   | (with_reducible exact LeO.refl _)
   | (with_reducible exact LeO.none _)
   | (with_reducible refine LeO.ite ?_ ?_)
   | (with_reducible refine LeO.bind ?_ (fun _ => ?_))
   | exact ih0 _ _ _ _ _
   | exact ih1 _ _ _ _ _ _
   | exact ih2 _ _ _ _ _ _
   | exact ih3 _
   | exact spec_StreamNew.mono _ _
   | exact spec_StreamTake.mono _ _ _ _
   | exact LeO.none _
   | refine LeO.ite ?_ ?_
   | refine LeO.bind ?_ (fun _ => ?_)
set_option maxHeartbeats 8000000 in
set_option maxRecDepth 100000 in
theorem spec_Uniform.calls (k : Nat) (a0 : ByteArray) (a1 : Int) (a2 : Int) (r : List Int) (w : World) (h : spec_Uniform.f k a0 a1 a2 = some r) :
  Calls Try.prog 13 #[.string a0, .int .i64 a1, .int .i64 a2] w fun e w' => ∃ v0_ : Value, e = .returned (v0_) ∧ Kd.R (Kd.int .i64) 3 w' w.heap.size (fun _ => True) v0_ r ∧ Below w.heap.size w w' := by
 have hu53 := Try.underlying53
 have HB := Aside0.mk (Below.refl w.heap.size w)
 have H : ((spec_l06Byte.f a1).bind fun t244 => (if a0.size + t244.size ≤ 9223372036854775807 then ((spec_l06Byte.f a2).bind fun t245 => (if (a0 ++ t244).size + t245.size ≤ 9223372036854775807 then ((spec_StreamNew.f k ((a0 ++ t244) ++ t245)).bind fun bt246 => (spec_Uniform.l0 k (([] : List Int)) (⟨#[]⟩ : ByteArray) 0 bt246.1 bt246.2)) else (none))) else (none))) = some r := h
 clear h
 obtain ⟨y241, hy241⟩ : ∃ y_ : List Int, y_ = (([] : List Int)) := ⟨_, rfl⟩
 replace H : ((spec_l06Byte.f a1).bind fun t244 => (if a0.size + t244.size ≤ 9223372036854775807 then ((spec_l06Byte.f a2).bind fun t245 => (if (a0 ++ t244).size + t245.size ≤ 9223372036854775807 then ((spec_StreamNew.f k ((a0 ++ t244) ++ t245)).bind fun bt246 => (spec_Uniform.l0 k y241 (⟨#[]⟩ : ByteArray) 0 bt246.1 bt246.2)) else (none))) else (none))) = some r := by first | (rw [hy241]; with_reducible exact H) | (have H2_ := (Option.bind_some _ _).symm.trans H; rw [hy241]; with_reducible exact H2_) | (have H2_ := (Option.bind_some _ _).symm.trans H; with_reducible exact H2_) | with_reducible exact H | (rw [hy241]; exact H) | exact H
 have Ny241 := Aside0.mk hy241
 clear hy241
 replace H := Option.bind_eq_some_iff.mp H
 obtain ⟨t244, A40, H⟩ := H
 replace H : (if a0.size + t244.size ≤ 9223372036854775807 then ((spec_l06Byte.f a2).bind fun t245 => (if (a0 ++ t244).size + t245.size ≤ 9223372036854775807 then ((spec_StreamNew.f k ((a0 ++ t244) ++ t245)).bind fun bt246 => (spec_Uniform.l0 k y241 (⟨#[]⟩ : ByteArray) 0 bt246.1 bt246.2)) else (none))) else (none)) = some r := H
 have A4 := Aside0.mk A40
 clear A40
 by_cases c5 : a0.size + t244.size ≤ 9223372036854775807
 ·rw [if_pos c5] at H
  have c5b0 := eq_true c5
  have c5b1 : decide (a0.size + t244.size ≤ 9223372036854775807) = true := decide_eq_true c5
  try have c5b2 : (9223372036854775807 < a0.size + t244.size) = False := eq_false (Nat.not_lt.2 c5)
  replace H := Option.bind_eq_some_iff.mp H
  obtain ⟨t245, A60, H⟩ := H
  replace H : (if (a0 ++ t244).size + t245.size ≤ 9223372036854775807 then ((spec_StreamNew.f k ((a0 ++ t244) ++ t245)).bind fun bt246 => (spec_Uniform.l0 k y241 (⟨#[]⟩ : ByteArray) 0 bt246.1 bt246.2)) else (none)) = some r := H
  have A6 := Aside0.mk A60
  clear A60
  by_cases c7 : (a0 ++ t244).size + t245.size ≤ 9223372036854775807
  ·rw [if_pos c7] at H
   have c7b0 := eq_true c7
   have c7b1 : decide ((a0 ++ t244).size + t245.size ≤ 9223372036854775807) = true := decide_eq_true c7
   try have c7b2 : (9223372036854775807 < (a0 ++ t244).size + t245.size) = False := eq_false (Nat.not_lt.2 c7)
   try (have c7b9 : (9223372036854775807 < (a0 ++ t244).size + t245.size) = False := c7b2; simp only [ByteArray.size_append] at c7b9)
   replace H := Option.bind_eq_some_iff.mp H
   obtain ⟨⟨t246, t247⟩, A80, H⟩ := H
   replace H : (spec_Uniform.l0 k y241 (⟨#[]⟩ : ByteArray) 0 t246 t247) = some r := H
   have A8 := Aside0.mk A80
   clear A80
   have H' := Aside0.mk H
   clear H
   go_enter Try.func13, Try.ntmps13
   go_wp2_with (first | ((with_reducible refine gate_dst (N := 16) rfl ?_); (try (refine gate_guard (by rfl) ?_; dsimp only)); refine Kd.R_lit (Kd.int .i64) _ 3 ?hg (N := 16) ?hd (xs := ([] : List Int)) (inner := []) (ok := fun _ => True) (okp := fun _ => True) ?hr ?hp (fun _ hk => hk) trivial (Below.refl _ _) (Nat.le_refl _) (by simp) ?_; (case hd => rfl); (case hg => rfl); (case hr => first | (go_simp; done) | (go_simp; rfl)); (case hp => exact (Reps.none _ _)); intro v242 w9 ho10 hb hg_ hnew_; clear hg_ hnew_; (first | rw [← Ny241.out] at ho10 | (simp only [Int.reduceToNat] at ho10; rw [← Ny241.out] at ho10)); have n0_ := Aside0.mk (Kd.R_lower ho10 (below_size (hB_))); have n1_ := Aside0.mk (below_step (hB_) hb); clear HB; have HO243 := n0_; have HB := n1_; clear n0_ n1_; clear hb ho10) | (go_at_call 30; (with_reducible refine (spec_l06Byte.calls a1 t244 _ A4.out).mono ?_); rintro e w11 ⟨rfl, hb⟩; have n0_ := Aside0.mk (Kd.R_below (rR_ HO243.out) hb); have n1_ := Aside0.mk (below_step (hB_) hb); clear HO243; clear HB; have HO243 := n0_; have HB := n1_; clear n0_ n1_; (try clear hb); (try clear hb2); (try clear hk); (try clear hi)) | (go_at_call 30; (with_reducible refine (spec_l06Byte.calls a2 t245 _ A6.out).mono ?_); rintro e w12 ⟨rfl, hb⟩; have n0_ := Aside0.mk (Kd.R_below (rR_ HO243.out) hb); have n1_ := Aside0.mk (below_step (hB_) hb); clear HO243; clear HB; have HO243 := n0_; have HB := n1_; clear n0_ n1_; (try clear hb); (try clear hb2); (try clear hk); (try clear hi)) | (go_at_call 34; (with_reducible refine (spec_StreamNew.calls k ((a0 ++ t244) ++ t245) t246 t247 _ A8.out).mono ?_); rintro e w13 ⟨rfl, hb⟩; have n0_ := Aside0.mk (Kd.R_below (rR_ HO243.out) hb); have n1_ := Aside0.mk (below_step (hB_) hb); clear HO243; clear HB; have HO243 := n0_; have HB := n1_; clear n0_ n1_; (try clear hb); (try clear hb2); (try clear hk); (try clear hi)) | ((with_reducible refine gate_dst (N := 8) rfl ?_); (try (refine gate_guard (by rfl) ?_; dsimp only)); refine box_event ?hg (N := 8) ?hd (cs := #[.string (⟨#[]⟩ : ByteArray), .int .i64 0]) (t := 53) ?hr ?_; (case hd => rfl); (case hg => rfl); (case hr => first | (go_simp; done) | (go_simp; rfl)); intro gb248 hg w14 hbox hb; have n0_ := Aside0.mk (Kd.R_below (rR_ HO243.out) hb); have n1_ := Aside0.mk (below_step (hB_) hb); have n2_ := Aside0.mk (hbox); have n3_ := Aside0.mk ((by rw [hg]; exact (below_size (hB_)) : w.heap.size ≤ gb248)); have n4_ := Aside0.mk ((by rw [hg]; exact (below_size (hB_)) : w.heap.size ≤ gb248)); clear HO243; clear HB; have HO243 := n0_; have HB := n1_; have BK248 := n2_; have GW248 := n3_; have GE248 := n4_; clear n0_ n1_ n2_ n3_ n4_; clear hb hbox hg; have hcz15_0 : w14.cell? ⟨gb248, 0, none⟩ = some (.string (⟨#[]⟩ : ByteArray)) := (blk_cell BK248.out 0).trans rfl; have hcz15_1 : w14.cell? ⟨gb248, 1, none⟩ = some (.int .i64 0) := (blk_cell BK248.out 1).trans rfl; have hfz15_0 := blk_frozen BK248.out 0; have hfz15_1 := blk_frozen BK248.out 1))
   repeat (go_quiet (first | ((with_reducible refine gate_dst (N := 16) rfl ?_); (try (refine gate_guard (by rfl) ?_; dsimp only)); refine Kd.R_lit (Kd.int .i64) _ 3 ?hg (N := 16) ?hd (xs := ([] : List Int)) (inner := []) (ok := fun _ => True) (okp := fun _ => True) ?hr ?hp (fun _ hk => hk) trivial (Below.refl _ _) (Nat.le_refl _) (by simp) ?_; (case hd => rfl); (case hg => rfl); (case hr => first | (go_simp; done) | (go_simp; rfl)); (case hp => exact (Reps.none _ _)); intro v242 w9 ho10 hb hg_ hnew_; clear hg_ hnew_; (first | rw [← Ny241.out] at ho10 | (simp only [Int.reduceToNat] at ho10; rw [← Ny241.out] at ho10)); have n0_ := Aside0.mk (Kd.R_lower ho10 (below_size (hB_))); have n1_ := Aside0.mk (below_step (hB_) hb); clear HB; have HO243 := n0_; have HB := n1_; clear n0_ n1_; clear hb ho10) | (go_at_call 30; (with_reducible refine (spec_l06Byte.calls a1 t244 _ A4.out).mono ?_); rintro e w11 ⟨rfl, hb⟩; have n0_ := Aside0.mk (Kd.R_below (rR_ HO243.out) hb); have n1_ := Aside0.mk (below_step (hB_) hb); clear HO243; clear HB; have HO243 := n0_; have HB := n1_; clear n0_ n1_; (try clear hb); (try clear hb2); (try clear hk); (try clear hi)) | (go_at_call 30; (with_reducible refine (spec_l06Byte.calls a2 t245 _ A6.out).mono ?_); rintro e w12 ⟨rfl, hb⟩; have n0_ := Aside0.mk (Kd.R_below (rR_ HO243.out) hb); have n1_ := Aside0.mk (below_step (hB_) hb); clear HO243; clear HB; have HO243 := n0_; have HB := n1_; clear n0_ n1_; (try clear hb); (try clear hb2); (try clear hk); (try clear hi)) | (go_at_call 34; (with_reducible refine (spec_StreamNew.calls k ((a0 ++ t244) ++ t245) t246 t247 _ A8.out).mono ?_); rintro e w13 ⟨rfl, hb⟩; have n0_ := Aside0.mk (Kd.R_below (rR_ HO243.out) hb); have n1_ := Aside0.mk (below_step (hB_) hb); clear HO243; clear HB; have HO243 := n0_; have HB := n1_; clear n0_ n1_; (try clear hb); (try clear hb2); (try clear hk); (try clear hi)) | ((with_reducible refine gate_dst (N := 8) rfl ?_); (try (refine gate_guard (by rfl) ?_; dsimp only)); refine box_event ?hg (N := 8) ?hd (cs := #[.string (⟨#[]⟩ : ByteArray), .int .i64 0]) (t := 53) ?hr ?_; (case hd => rfl); (case hg => rfl); (case hr => first | (go_simp; done) | (go_simp; rfl)); intro gb248 hg w14 hbox hb; have n0_ := Aside0.mk (Kd.R_below (rR_ HO243.out) hb); have n1_ := Aside0.mk (below_step (hB_) hb); have n2_ := Aside0.mk (hbox); have n3_ := Aside0.mk ((by rw [hg]; exact (below_size (hB_)) : w.heap.size ≤ gb248)); have n4_ := Aside0.mk ((by rw [hg]; exact (below_size (hB_)) : w.heap.size ≤ gb248)); clear HO243; clear HB; have HO243 := n0_; have HB := n1_; have BK248 := n2_; have GW248 := n3_; have GE248 := n4_; clear n0_ n1_ n2_ n3_ n4_; clear hb hbox hg; have hcz15_0 : w14.cell? ⟨gb248, 0, none⟩ = some (.string (⟨#[]⟩ : ByteArray)) := (blk_cell BK248.out 0).trans rfl; have hcz15_1 : w14.cell? ⟨gb248, 1, none⟩ = some (.int .i64 0) := (blk_cell BK248.out 1).trans rfl; have hfz15_0 := blk_frozen BK248.out 0; have hfz15_1 := blk_frozen BK248.out 1)); try go_wp2_with (first | ((with_reducible refine gate_dst (N := 16) rfl ?_); (try (refine gate_guard (by rfl) ?_; dsimp only)); refine Kd.R_lit (Kd.int .i64) _ 3 ?hg (N := 16) ?hd (xs := ([] : List Int)) (inner := []) (ok := fun _ => True) (okp := fun _ => True) ?hr ?hp (fun _ hk => hk) trivial (Below.refl _ _) (Nat.le_refl _) (by simp) ?_; (case hd => rfl); (case hg => rfl); (case hr => first | (go_simp; done) | (go_simp; rfl)); (case hp => exact (Reps.none _ _)); intro v242 w9 ho10 hb hg_ hnew_; clear hg_ hnew_; (first | rw [← Ny241.out] at ho10 | (simp only [Int.reduceToNat] at ho10; rw [← Ny241.out] at ho10)); have n0_ := Aside0.mk (Kd.R_lower ho10 (below_size (hB_))); have n1_ := Aside0.mk (below_step (hB_) hb); clear HB; have HO243 := n0_; have HB := n1_; clear n0_ n1_; clear hb ho10) | (go_at_call 30; (with_reducible refine (spec_l06Byte.calls a1 t244 _ A4.out).mono ?_); rintro e w11 ⟨rfl, hb⟩; have n0_ := Aside0.mk (Kd.R_below (rR_ HO243.out) hb); have n1_ := Aside0.mk (below_step (hB_) hb); clear HO243; clear HB; have HO243 := n0_; have HB := n1_; clear n0_ n1_; (try clear hb); (try clear hb2); (try clear hk); (try clear hi)) | (go_at_call 30; (with_reducible refine (spec_l06Byte.calls a2 t245 _ A6.out).mono ?_); rintro e w12 ⟨rfl, hb⟩; have n0_ := Aside0.mk (Kd.R_below (rR_ HO243.out) hb); have n1_ := Aside0.mk (below_step (hB_) hb); clear HO243; clear HB; have HO243 := n0_; have HB := n1_; clear n0_ n1_; (try clear hb); (try clear hb2); (try clear hk); (try clear hi)) | (go_at_call 34; (with_reducible refine (spec_StreamNew.calls k ((a0 ++ t244) ++ t245) t246 t247 _ A8.out).mono ?_); rintro e w13 ⟨rfl, hb⟩; have n0_ := Aside0.mk (Kd.R_below (rR_ HO243.out) hb); have n1_ := Aside0.mk (below_step (hB_) hb); clear HO243; clear HB; have HO243 := n0_; have HB := n1_; clear n0_ n1_; (try clear hb); (try clear hb2); (try clear hk); (try clear hi)) | ((with_reducible refine gate_dst (N := 8) rfl ?_); (try (refine gate_guard (by rfl) ?_; dsimp only)); refine box_event ?hg (N := 8) ?hd (cs := #[.string (⟨#[]⟩ : ByteArray), .int .i64 0]) (t := 53) ?hr ?_; (case hd => rfl); (case hg => rfl); (case hr => first | (go_simp; done) | (go_simp; rfl)); intro gb248 hg w14 hbox hb; have n0_ := Aside0.mk (Kd.R_below (rR_ HO243.out) hb); have n1_ := Aside0.mk (below_step (hB_) hb); have n2_ := Aside0.mk (hbox); have n3_ := Aside0.mk ((by rw [hg]; exact (below_size (hB_)) : w.heap.size ≤ gb248)); have n4_ := Aside0.mk ((by rw [hg]; exact (below_size (hB_)) : w.heap.size ≤ gb248)); clear HO243; clear HB; have HO243 := n0_; have HB := n1_; have BK248 := n2_; have GW248 := n3_; have GE248 := n4_; clear n0_ n1_ n2_ n3_ n4_; clear hb hbox hg; have hcz15_0 : w14.cell? ⟨gb248, 0, none⟩ = some (.string (⟨#[]⟩ : ByteArray)) := (blk_cell BK248.out 0).trans rfl; have hcz15_1 : w14.cell? ⟨gb248, 1, none⟩ = some (.int .i64 0) := (blk_cell BK248.out 1).trans rfl; have hfz15_0 := blk_frozen BK248.out 0; have hfz15_1 := blk_frozen BK248.out 1)))
   go_loopg [7, 9, 10] k (fun kq v7 v9 v10 w' => ∃ (x7_1 : List Int) (x9_1 : ByteArray) (x10_1 : Int) (x249000_1 : ByteArray) (x249001_1 : Int), v9 = .string x9_1 ∧ v10 = .int .i64 x10_1 ∧ Aside0 (spec_Uniform.l0 kq x7_1 x9_1 x10_1 x249000_1 x249001_1 = some r) ∧ Aside0 (kq ≤ k) ∧ Aside0 (Kd.R (Kd.int .i64) 3 w' w.heap.size (fun _ => True) v7 x7_1) ∧ Aside0 (w'.heap[gb248]? = some (.cells #[.string x249000_1, .int .i64 x249001_1] 53 (0, 0))) ∧ Aside0 (Below w.heap.size w w'))
   case atStart => exact ⟨(y241), ((⟨#[]⟩ : ByteArray)), (0), (t246), (t247), (by first | rfl | (simp; done) | (simp [*]; done)), (by first | rfl | (simp; done) | (simp [*]; done)), H', ⟨Nat.le_refl _⟩, ⟨by (with_reducible repeat (first | apply Kd.R_alloc | apply Kd.R_drewN | apply Kd.R_drew)); exact Kd.R_mono (Kd.R_far (Kd.R_far (Kd.R_types HO243.out BK248.out (by decide)) (fun _ hk => hk.2) _) (fun _ hk => hk.2) _) (fun _ hk => trivial)⟩, ⟨by (with_reducible repeat (first | refine blk_drewN ?_ _ | refine blk_drew ?_ | refine blk_alloc ?_ _)); refine blk_put (cs := #[.string t246, .int .i64 0]) ?_ 1 _ rfl; (with_reducible repeat (first | refine blk_drewN ?_ _ | refine blk_drew ?_ | refine blk_alloc ?_ _)); refine blk_put (cs := #[.string (⟨#[]⟩ : ByteArray), .int .i64 0]) ?_ 0 _ rfl; (with_reducible repeat (first | refine blk_drewN ?_ _ | refine blk_drew ?_ | refine blk_alloc ?_ _)); exact BK248.out⟩, ⟨hS_ GE248.out⟩⟩
   case round =>
    clear H'
    try clear c1
    try clear p2
    try clear c5
    try clear c5b0
    try clear c5b1
    try clear c5b2
    try clear c7
    try clear c7b0
    try clear c7b1
    try clear c7b2
    try clear c13
    try clear hcz15_0
    try clear hcz15_1
    try clear hfz15_0
    try clear hfz15_1
    obtain ⟨x7_1, x9_1, x10_1, x249000_1, x249001_1, rfl, rfl, HA, HK1, HO_7, BK248, HB⟩ := hrel
    cases gk with
    | zero => exact absurd HA.out (by simp [spec_Uniform.l0])
    | succ k1 =>
     have H := HA.out
     clear HA
     simp only [spec_Uniform.l0] at H
     have HC16 := Aside0.mk H
     clear H
     go_upto_region 5 with (fail)
     repeat (go_quiet (fail); go_upto_region 5 with (fail))
     go_cut [31] (fun v31 wc => ∃ (kq : Nat) (x31_15 : Bool), v31 = .bool x31_15 ∧ Aside0 (spec_Uniform.j1 kq x7_1 x9_1 x10_1 x31_15 x249000_1 x249001_1 = some r) ∧ Aside0 (kq ≤ k1) ∧ Aside0 (Kd.R (Kd.int .i64) 3 wc w.heap.size (fun _ => True) u7 x7_1) ∧ Aside0 (wc.heap[gb248]? = some (.cells #[.string x249000_1, .int .i64 x249001_1] 53 (0, 0))) ∧ Aside0 (Below w.heap.size w wc))
     case first =>
      have H := HC16.out
      clear HC16
      by_cases c17 : x10_1 < 4000
      ·rw [if_pos c17] at H
       have c17b0 : decide (x10_1 < 4000) = true := decide_eq_true c17
       clear c17
       (first | rw [c17b0] | (simp only [i64_w, i32_w]; rw [c17b0]) | skip)
       have H' := Aside0.mk H
       clear H
       obtain ⟨Ao18, co18, eo18⟩ := Kd.R_slice HO_7.out
       subst eo18
       go_wp2
       repeat (go_quiet (fail); try go_wp2)
       go_meet
       case rel => exact ⟨_, (decide ((x7_1.length : Int) < 256)), (by first | rfl | (simp; done) | (simp [*]; done)), H', ⟨by have := HK1.out; first | omega | exact Nat.le_refl _⟩, ⟨rR_ HO_7.out⟩, ⟨by (with_reducible repeat (first | refine blk_drewN ?_ _ | refine blk_drew ?_ | refine blk_alloc ?_ _)); exact BK248.out⟩, ⟨hS_ GE248.out⟩⟩
      ·rw [if_neg c17] at H
       have c17b0 : decide (x10_1 < 4000) = false := decide_eq_false c17
       clear c17
       (first | rw [c17b0] | (simp only [i64_w, i32_w]; rw [c17b0]) | skip)
       have H' := Aside0.mk H
       clear H
       go_wp2
       repeat (go_quiet (fail); try go_wp2)
       go_meet
       case rel => exact ⟨_, (false), (by first | rfl | (simp; done) | (simp [*]; done)), H', ⟨by have := HK1.out; first | omega | exact Nat.le_refl _⟩, ⟨rR_ HO_7.out⟩, ⟨by (with_reducible repeat (first | refine blk_drewN ?_ _ | refine blk_drew ?_ | refine blk_alloc ?_ _)); exact BK248.out⟩, ⟨hS_ GE248.out⟩⟩
     case rest =>
      clear HC16
      try clear c1
      try clear p2
      try clear c5
      try clear c5b0
      try clear c5b1
      try clear c5b2
      try clear c7
      try clear c7b0
      try clear c7b1
      try clear c7b2
      try clear c13
      try clear c17
      try clear c17b0
      try clear hcz15_0
      try clear hcz15_1
      try clear hfz15_0
      try clear hfz15_1
      try clear p2
      obtain ⟨kq, x31_15, rfl, HA, HJ15, HO_7, BK248, HB⟩ := hcut
      cases kq with
      | zero => exact absurd HA.out (by simp [spec_Uniform.j1])
      | succ kj15 =>
       have H := HA.out
       clear HA
       simp only [spec_Uniform.j1] at H
       by_cases c19 : x31_15 = true
       ·subst c19
        have H1 : (if (wrap64 ((Int.tmod x10_1 56) * 3)) = 0 then ((spec_StreamTake.f kj15 x249000_1 x249001_1 168).bind fun bt249 => (spec_Uniform.j2 kj15 x7_1 bt249.2.2 x10_1 (wrap64 ((Int.tmod x10_1 56) * 3)) bt249.1 bt249.2.1)) else (spec_Uniform.j2 kj15 x7_1 x9_1 x10_1 (wrap64 ((Int.tmod x10_1 56) * 3)) x249000_1 x249001_1)) = some r := by rw [if_pos rfl] at H; exact H
        clear H
        have H := H1
        clear H1
        have HC20 := Aside0.mk H
        clear H
        go_upto_if 38 with (fail)
        repeat (go_quiet (fail); go_upto_if 38 with (fail))
        go_cut [9] (fun v9 wc => ∃ (kq : Nat) (x9_19 : ByteArray) (x249000_19 : ByteArray) (x249001_19 : Int), v9 = .string x9_19 ∧ Aside0 (spec_Uniform.j2 kq x7_1 x9_19 x10_1 (wrap64 ((Int.tmod x10_1 56) * 3)) x249000_19 x249001_19 = some r) ∧ Aside0 (kq ≤ kj15) ∧ Aside0 (Kd.R (Kd.int .i64) 3 wc w.heap.size (fun _ => True) u7 x7_1) ∧ Aside0 (wc.heap[gb248]? = some (.cells #[.string x249000_19, .int .i64 x249001_19] 53 (0, 0))) ∧ Aside0 (Below w.heap.size w wc))
        case first =>
         have H := HC20.out
         clear HC20
         by_cases c21 : (wrap64 ((Int.tmod x10_1 56) * 3)) = 0
         ·rw [if_pos c21] at H
          have c21b0 : ((wrap64 ((Int.tmod x10_1 56) * 3)) == 0) = true := beq_iff_eq.mpr c21
          have c21b1 : ((wrap64 ((Int.tmod x10_1 56) * 3)) != 0) = false := bne_eq_false_iff_eq.mpr c21
          clear c21
          (first | rw [c21b0] | (simp only [i64_w, i32_w]; rw [c21b0]) | skip)
          replace H := Option.bind_eq_some_iff.mp H
          obtain ⟨⟨t249, t250, t251⟩, A220, H⟩ := H
          replace H : (spec_Uniform.j2 kj15 x7_1 t251 x10_1 (wrap64 ((Int.tmod x10_1 56) * 3)) t249 t250) = some r := H
          have A22 := Aside0.mk A220
          clear A220
          have H' := Aside0.mk H
          clear H
          have hcz23_0 : wc.cell? ⟨gb248, 0, none⟩ = some (.string x249000_1) := (blk_cell BK248.out 0).trans rfl
          have hcz23_1 : wc.cell? ⟨gb248, 1, none⟩ = some (.int .i64 x249001_1) := (blk_cell BK248.out 1).trans rfl
          have hfz23_0 := blk_frozen BK248.out 0
          have hfz23_1 := blk_frozen BK248.out 1
          go_wp2_with (first | (go_at_call 35; (with_reducible refine (spec_StreamTake.calls kj15 x249000_1 x249001_1 168 t249 t250 t251 _ A22.out).mono ?_); rintro e w24 ⟨rfl, hb⟩; have n0_ := Aside0.mk (Kd.R_below (rR_ HO_7.out) hb); have n1_ := Aside0.mk (blk_below (g := gb248) (o := .cells #[.string x249000_1, .int .i64 x249001_1] 53 (0, 0)) (rK_ BK248.out) hb); have n2_ := Aside0.mk (below_step (hS_ GE248.out) hb); clear HO_7; clear BK248; clear HB; have HO_7 := n0_; have BK248 := n1_; have HB := n2_; clear n0_ n1_ n2_; (try clear hb); (try clear hb2); (try clear hk); (try clear hi)) | ((with_reducible refine gate_dst (N := 12) rfl ?_); (try (refine gate_guard (by rfl) ?_; dsimp only)); refine box_event ?hg (N := 12) ?hd (cs := #[.string (⟨#[]⟩ : ByteArray), .int .i64 0]) (t := 53) ?hr ?_; (case hd => rfl); (case hg => rfl); (case hr => first | (go_simp; done) | (go_simp; rfl)); intro gb252 hg w25 hbox hb; have n0_ := Aside0.mk (Kd.R_below (rR_ HO_7.out) hb); have n1_ := Aside0.mk (blk_below (g := gb248) (o := .cells #[.string x249000_1, .int .i64 x249001_1] 53 (0, 0)) (rK_ BK248.out) hb); have n2_ := Aside0.mk (below_step (hS_ GE248.out) hb); have n3_ := Aside0.mk (hbox); have n4_ := Aside0.mk ((by rw [hg]; exact (below_size (hS_ GE248.out)) : w.heap.size ≤ gb252)); have n5_ := Aside0.mk ((by rw [hg]; exact (below_size (hS_ GE248.out)) : w.heap.size ≤ gb252)); have n6_ := Aside0.mk ((by rw [hg]; exact Nat.ne_of_lt (blk_lt (g := gb248) (o := .cells #[.string x249000_1, .int .i64 x249001_1] 53 (0, 0)) (rK_ BK248.out)) : gb248 ≠ gb252)); have n7_ := Aside0.mk ((by rw [hg]; exact Nat.ne_of_gt (blk_lt (g := gb248) (o := .cells #[.string x249000_1, .int .i64 x249001_1] 53 (0, 0)) (rK_ BK248.out)) : gb252 ≠ gb248)); clear HO_7; clear BK248; clear HB; have HO_7 := n0_; have BK248 := n1_; have HB := n2_; have BK252 := n3_; have GW252 := n4_; have GE252 := n5_; have NB248_252 := n6_; have NB252_248 := n7_; clear n0_ n1_ n2_ n3_ n4_ n5_ n6_ n7_; clear hb hbox hg; have hnb26 := NB252_248.out; have hnc26 := NB248_252.out; have hcz27_0 : w25.cell? ⟨gb252, 0, none⟩ = some (.string (⟨#[]⟩ : ByteArray)) := (blk_cell BK252.out 0).trans rfl; have hcz27_1 : w25.cell? ⟨gb252, 1, none⟩ = some (.int .i64 0) := (blk_cell BK252.out 1).trans rfl; have hfz27_0 := blk_frozen BK252.out 0; have hfz27_1 := blk_frozen BK252.out 1; have hcz28_0 : w25.cell? ⟨gb248, 0, none⟩ = some (.string x249000_1) := (blk_cell BK248.out 0).trans rfl; have hcz28_1 : w25.cell? ⟨gb248, 1, none⟩ = some (.int .i64 x249001_1) := (blk_cell BK248.out 1).trans rfl; have hfz28_0 := blk_frozen BK248.out 0; have hfz28_1 := blk_frozen BK248.out 1))
          repeat (go_quiet (first | (go_at_call 35; (with_reducible refine (spec_StreamTake.calls kj15 x249000_1 x249001_1 168 t249 t250 t251 _ A22.out).mono ?_); rintro e w24 ⟨rfl, hb⟩; have n0_ := Aside0.mk (Kd.R_below (rR_ HO_7.out) hb); have n1_ := Aside0.mk (blk_below (g := gb248) (o := .cells #[.string x249000_1, .int .i64 x249001_1] 53 (0, 0)) (rK_ BK248.out) hb); have n2_ := Aside0.mk (below_step (hS_ GE248.out) hb); clear HO_7; clear BK248; clear HB; have HO_7 := n0_; have BK248 := n1_; have HB := n2_; clear n0_ n1_ n2_; (try clear hb); (try clear hb2); (try clear hk); (try clear hi)) | ((with_reducible refine gate_dst (N := 12) rfl ?_); (try (refine gate_guard (by rfl) ?_; dsimp only)); refine box_event ?hg (N := 12) ?hd (cs := #[.string (⟨#[]⟩ : ByteArray), .int .i64 0]) (t := 53) ?hr ?_; (case hd => rfl); (case hg => rfl); (case hr => first | (go_simp; done) | (go_simp; rfl)); intro gb252 hg w25 hbox hb; have n0_ := Aside0.mk (Kd.R_below (rR_ HO_7.out) hb); have n1_ := Aside0.mk (blk_below (g := gb248) (o := .cells #[.string x249000_1, .int .i64 x249001_1] 53 (0, 0)) (rK_ BK248.out) hb); have n2_ := Aside0.mk (below_step (hS_ GE248.out) hb); have n3_ := Aside0.mk (hbox); have n4_ := Aside0.mk ((by rw [hg]; exact (below_size (hS_ GE248.out)) : w.heap.size ≤ gb252)); have n5_ := Aside0.mk ((by rw [hg]; exact (below_size (hS_ GE248.out)) : w.heap.size ≤ gb252)); have n6_ := Aside0.mk ((by rw [hg]; exact Nat.ne_of_lt (blk_lt (g := gb248) (o := .cells #[.string x249000_1, .int .i64 x249001_1] 53 (0, 0)) (rK_ BK248.out)) : gb248 ≠ gb252)); have n7_ := Aside0.mk ((by rw [hg]; exact Nat.ne_of_gt (blk_lt (g := gb248) (o := .cells #[.string x249000_1, .int .i64 x249001_1] 53 (0, 0)) (rK_ BK248.out)) : gb252 ≠ gb248)); clear HO_7; clear BK248; clear HB; have HO_7 := n0_; have BK248 := n1_; have HB := n2_; have BK252 := n3_; have GW252 := n4_; have GE252 := n5_; have NB248_252 := n6_; have NB252_248 := n7_; clear n0_ n1_ n2_ n3_ n4_ n5_ n6_ n7_; clear hb hbox hg; have hnb26 := NB252_248.out; have hnc26 := NB248_252.out; have hcz27_0 : w25.cell? ⟨gb252, 0, none⟩ = some (.string (⟨#[]⟩ : ByteArray)) := (blk_cell BK252.out 0).trans rfl; have hcz27_1 : w25.cell? ⟨gb252, 1, none⟩ = some (.int .i64 0) := (blk_cell BK252.out 1).trans rfl; have hfz27_0 := blk_frozen BK252.out 0; have hfz27_1 := blk_frozen BK252.out 1; have hcz28_0 : w25.cell? ⟨gb248, 0, none⟩ = some (.string x249000_1) := (blk_cell BK248.out 0).trans rfl; have hcz28_1 : w25.cell? ⟨gb248, 1, none⟩ = some (.int .i64 x249001_1) := (blk_cell BK248.out 1).trans rfl; have hfz28_0 := blk_frozen BK248.out 0; have hfz28_1 := blk_frozen BK248.out 1)); try go_wp2_with (first | (go_at_call 35; (with_reducible refine (spec_StreamTake.calls kj15 x249000_1 x249001_1 168 t249 t250 t251 _ A22.out).mono ?_); rintro e w24 ⟨rfl, hb⟩; have n0_ := Aside0.mk (Kd.R_below (rR_ HO_7.out) hb); have n1_ := Aside0.mk (blk_below (g := gb248) (o := .cells #[.string x249000_1, .int .i64 x249001_1] 53 (0, 0)) (rK_ BK248.out) hb); have n2_ := Aside0.mk (below_step (hS_ GE248.out) hb); clear HO_7; clear BK248; clear HB; have HO_7 := n0_; have BK248 := n1_; have HB := n2_; clear n0_ n1_ n2_; (try clear hb); (try clear hb2); (try clear hk); (try clear hi)) | ((with_reducible refine gate_dst (N := 12) rfl ?_); (try (refine gate_guard (by rfl) ?_; dsimp only)); refine box_event ?hg (N := 12) ?hd (cs := #[.string (⟨#[]⟩ : ByteArray), .int .i64 0]) (t := 53) ?hr ?_; (case hd => rfl); (case hg => rfl); (case hr => first | (go_simp; done) | (go_simp; rfl)); intro gb252 hg w25 hbox hb; have n0_ := Aside0.mk (Kd.R_below (rR_ HO_7.out) hb); have n1_ := Aside0.mk (blk_below (g := gb248) (o := .cells #[.string x249000_1, .int .i64 x249001_1] 53 (0, 0)) (rK_ BK248.out) hb); have n2_ := Aside0.mk (below_step (hS_ GE248.out) hb); have n3_ := Aside0.mk (hbox); have n4_ := Aside0.mk ((by rw [hg]; exact (below_size (hS_ GE248.out)) : w.heap.size ≤ gb252)); have n5_ := Aside0.mk ((by rw [hg]; exact (below_size (hS_ GE248.out)) : w.heap.size ≤ gb252)); have n6_ := Aside0.mk ((by rw [hg]; exact Nat.ne_of_lt (blk_lt (g := gb248) (o := .cells #[.string x249000_1, .int .i64 x249001_1] 53 (0, 0)) (rK_ BK248.out)) : gb248 ≠ gb252)); have n7_ := Aside0.mk ((by rw [hg]; exact Nat.ne_of_gt (blk_lt (g := gb248) (o := .cells #[.string x249000_1, .int .i64 x249001_1] 53 (0, 0)) (rK_ BK248.out)) : gb252 ≠ gb248)); clear HO_7; clear BK248; clear HB; have HO_7 := n0_; have BK248 := n1_; have HB := n2_; have BK252 := n3_; have GW252 := n4_; have GE252 := n5_; have NB248_252 := n6_; have NB252_248 := n7_; clear n0_ n1_ n2_ n3_ n4_ n5_ n6_ n7_; clear hb hbox hg; have hnb26 := NB252_248.out; have hnc26 := NB248_252.out; have hcz27_0 : w25.cell? ⟨gb252, 0, none⟩ = some (.string (⟨#[]⟩ : ByteArray)) := (blk_cell BK252.out 0).trans rfl; have hcz27_1 : w25.cell? ⟨gb252, 1, none⟩ = some (.int .i64 0) := (blk_cell BK252.out 1).trans rfl; have hfz27_0 := blk_frozen BK252.out 0; have hfz27_1 := blk_frozen BK252.out 1; have hcz28_0 : w25.cell? ⟨gb248, 0, none⟩ = some (.string x249000_1) := (blk_cell BK248.out 0).trans rfl; have hcz28_1 : w25.cell? ⟨gb248, 1, none⟩ = some (.int .i64 x249001_1) := (blk_cell BK248.out 1).trans rfl; have hfz28_0 := blk_frozen BK248.out 0; have hfz28_1 := blk_frozen BK248.out 1)))
          go_meet
          case rel => exact ⟨_, (t251), (t249), (t250), (by first | rfl | (simp; done) | (simp [*]; done)), H', ⟨by have := HK1.out; have := HJ15.out; first | omega | exact Nat.le_refl _⟩, ⟨by (with_reducible repeat (first | apply Kd.R_alloc | apply Kd.R_drewN | apply Kd.R_drew)); exact Kd.R_mono (Kd.R_far (Kd.R_far (Kd.R_far (Kd.R_far (Kd.R_types (Kd.R_types HO_7.out BK252.out (by decide)) BK248.out (by decide)) (fun _ hk => hk.1.2) (.string t249)) (fun _ hk => hk.1.2) (.int .i64 t250)) (fun _ hk => hk.2) _) (fun _ hk => hk.2) _) (fun _ hk => trivial)⟩, ⟨by (with_reducible repeat (first | refine blk_drewN ?_ _ | refine blk_drew ?_ | refine blk_alloc ?_ _)); refine blk_put (cs := #[.string t249, .int .i64 x249001_1]) ?_ 1 _ rfl; (with_reducible repeat (first | refine blk_drewN ?_ _ | refine blk_drew ?_ | refine blk_alloc ?_ _)); refine blk_put (cs := #[.string x249000_1, .int .i64 x249001_1]) ?_ 0 _ rfl; (with_reducible repeat (first | refine blk_drewN ?_ _ | refine blk_drew ?_ | refine blk_alloc ?_ _)); refine blk_far ?_ NB248_252.out _; (with_reducible repeat (first | refine blk_drewN ?_ _ | refine blk_drew ?_ | refine blk_alloc ?_ _)); refine blk_far ?_ NB248_252.out _; (with_reducible repeat (first | refine blk_drewN ?_ _ | refine blk_drew ?_ | refine blk_alloc ?_ _)); exact BK248.out⟩, ⟨by repeat (first | (with_reducible first | exact HB.out | apply below_alloc | apply pw_below_drewN | apply below_drew1 | refine below_set ?_ GE248.out | refine below_set ?_ GE252.out) | exact HB.out)⟩⟩
         ·rw [if_neg c21] at H
          have c21b0 : ((wrap64 ((Int.tmod x10_1 56) * 3)) == 0) = false := beq_eq_false_iff_ne.mpr c21
          have c21b1 : ((wrap64 ((Int.tmod x10_1 56) * 3)) != 0) = true := bne_iff_ne.mpr c21
          (first | rw [c21b0] | (simp only [i64_w, i32_w]; rw [c21b0]) | skip)
          have H' := Aside0.mk H
          clear H
          go_wp2
          repeat (go_quiet (fail); try go_wp2)
          go_meet
          case rel => exact ⟨_, (x9_1), (x249000_1), (x249001_1), (by first | rfl | (simp; done) | (simp [*]; done)), H', ⟨by have := HK1.out; have := HJ15.out; first | omega | exact Nat.le_refl _⟩, ⟨rR_ HO_7.out⟩, ⟨by (with_reducible repeat (first | refine blk_drewN ?_ _ | refine blk_drew ?_ | refine blk_alloc ?_ _)); exact BK248.out⟩, ⟨hS_ GE248.out⟩⟩
        case rest =>
         clear HC20
         try clear c1
         try clear c2
         try clear p2
         try clear c5
         try clear c5b0
         try clear c5b1
         try clear c5b2
         try clear p6
         try clear c7
         try clear c7b0
         try clear c7b1
         try clear c7b2
         try clear c13
         try clear c17
         try clear c17b0
         try clear c19
         try clear c21
         try clear c21b0
         try clear c21b1
         try clear c26
         try clear hcz15_0
         try clear hcz15_1
         try clear hcz23_0
         try clear hcz23_1
         try clear hcz27_0
         try clear hcz27_1
         try clear hcz28_0
         try clear hcz28_1
         try clear hfz15_0
         try clear hfz15_1
         try clear hfz23_0
         try clear hfz23_1
         try clear hfz27_0
         try clear hfz27_1
         try clear hfz28_0
         try clear hfz28_1
         try clear p2
         obtain ⟨kq, x9_19, x249000_19, x249001_19, rfl, HA, HJ19, HO_7, BK248, HB⟩ := hcut
         cases kq with
         | zero => exact absurd HA.out (by simp [spec_Uniform.j2])
         | succ kj19 =>
          have H := HA.out
          clear HA
          simp only [spec_Uniform.j2] at H
          obtain ⟨ji29, hji29⟩ : ∃ j_ : Int, (wrap64 ((Int.tmod x10_1 56) * 3)) = j_ := ⟨_, rfl⟩
          replace H : (if 0 ≤ (ji29) then (if (ji29) < (x9_19.size : Int) then (if 0 ≤ (wrap64 ((ji29) + 1)) then (if (wrap64 ((ji29) + 1)) < (x9_19.size : Int) then (if 0 ≤ (wrap64 ((ji29) + 2)) then (if (wrap64 ((ji29) + 2)) < (x9_19.size : Int) then (if (wrap64 ((wrap64 (bt x9_19 (ji29))) + (wrap64 (256 * (Int.tmod (wrap64 (bt x9_19 (wrap64 ((ji29) + 1)))) 16))))) < 3329 then (if x7_1.length < 17592186044416 then ((some (x7_1 ++ [wrap64 ((wrap64 (bt x9_19 (ji29))) + (wrap64 (256 * (Int.tmod (wrap64 (bt x9_19 (wrap64 ((ji29) + 1)))) 16))))] : List Int)).bind fun y253 => (if (wrap64 ((wrap64 (Int.tdiv (wrap64 (bt x9_19 (wrap64 ((ji29) + 1)))) 16)) + (wrap64 (16 * (wrap64 (bt x9_19 (wrap64 ((ji29) + 2)))))))) < 3329 then (if (y253.length : Int) < 256 then (if y253.length < 17592186044416 then (spec_Uniform.l0 kj19 (y253 ++ [wrap64 ((wrap64 (Int.tdiv (wrap64 (bt x9_19 (wrap64 ((ji29) + 1)))) 16)) + (wrap64 (16 * (wrap64 (bt x9_19 (wrap64 ((ji29) + 2)))))))]) x9_19 (wrap64 (x10_1 + 1)) x249000_19 x249001_19) else (none)) else (spec_Uniform.l0 kj19 y253 x9_19 (wrap64 (x10_1 + 1)) x249000_19 x249001_19)) else (spec_Uniform.l0 kj19 y253 x9_19 (wrap64 (x10_1 + 1)) x249000_19 x249001_19))) else (none)) else (if (wrap64 ((wrap64 (Int.tdiv (wrap64 (bt x9_19 (wrap64 ((ji29) + 1)))) 16)) + (wrap64 (16 * (wrap64 (bt x9_19 (wrap64 ((ji29) + 2)))))))) < 3329 then (if (x7_1.length : Int) < 256 then (if x7_1.length < 17592186044416 then (spec_Uniform.l0 kj19 (x7_1 ++ [wrap64 ((wrap64 (Int.tdiv (wrap64 (bt x9_19 (wrap64 ((ji29) + 1)))) 16)) + (wrap64 (16 * (wrap64 (bt x9_19 (wrap64 ((ji29) + 2)))))))]) x9_19 (wrap64 (x10_1 + 1)) x249000_19 x249001_19) else (none)) else (spec_Uniform.l0 kj19 x7_1 x9_19 (wrap64 (x10_1 + 1)) x249000_19 x249001_19)) else (spec_Uniform.l0 kj19 x7_1 x9_19 (wrap64 (x10_1 + 1)) x249000_19 x249001_19))) else (none)) else (none)) else (none)) else (none)) else (none)) else (none)) = some r := by first | (rw [hji29] at H; exact H) | (simp only [hji29] at H ⊢; exact H)
          have hji29w : (IntKind.i64.wrap ((Int.tmod x10_1 56) * 3)) = ji29 := (i64_w _).trans hji29
          by_cases c30 : 0 ≤ (ji29)
          ·rw [if_pos c30] at H
           have c30b0 : decide (0 ≤ (ji29)) = true := decide_eq_true c30
           clear c30
           by_cases c31 : (ji29) < (x9_19.size : Int)
           ·rw [if_pos c31] at H
            have c31b0 : decide ((ji29) < (x9_19.size : Int)) = true := decide_eq_true c31
            clear c31
            obtain ⟨ji33, hji33⟩ : ∃ j_ : Int, (wrap64 ((ji29) + 1)) = j_ := ⟨_, rfl⟩
            replace H : (if 0 ≤ (ji33) then (if (ji33) < (x9_19.size : Int) then (if 0 ≤ (wrap64 ((ji29) + 2)) then (if (wrap64 ((ji29) + 2)) < (x9_19.size : Int) then (if (wrap64 ((wrap64 (bt x9_19 (ji29))) + (wrap64 (256 * (Int.tmod (wrap64 (bt x9_19 (ji33))) 16))))) < 3329 then (if x7_1.length < 17592186044416 then ((some (x7_1 ++ [wrap64 ((wrap64 (bt x9_19 (ji29))) + (wrap64 (256 * (Int.tmod (wrap64 (bt x9_19 (ji33))) 16))))] : List Int)).bind fun y253 => (if (wrap64 ((wrap64 (Int.tdiv (wrap64 (bt x9_19 (ji33))) 16)) + (wrap64 (16 * (wrap64 (bt x9_19 (wrap64 ((ji29) + 2)))))))) < 3329 then (if (y253.length : Int) < 256 then (if y253.length < 17592186044416 then (spec_Uniform.l0 kj19 (y253 ++ [wrap64 ((wrap64 (Int.tdiv (wrap64 (bt x9_19 (ji33))) 16)) + (wrap64 (16 * (wrap64 (bt x9_19 (wrap64 ((ji29) + 2)))))))]) x9_19 (wrap64 (x10_1 + 1)) x249000_19 x249001_19) else (none)) else (spec_Uniform.l0 kj19 y253 x9_19 (wrap64 (x10_1 + 1)) x249000_19 x249001_19)) else (spec_Uniform.l0 kj19 y253 x9_19 (wrap64 (x10_1 + 1)) x249000_19 x249001_19))) else (none)) else (if (wrap64 ((wrap64 (Int.tdiv (wrap64 (bt x9_19 (ji33))) 16)) + (wrap64 (16 * (wrap64 (bt x9_19 (wrap64 ((ji29) + 2)))))))) < 3329 then (if (x7_1.length : Int) < 256 then (if x7_1.length < 17592186044416 then (spec_Uniform.l0 kj19 (x7_1 ++ [wrap64 ((wrap64 (Int.tdiv (wrap64 (bt x9_19 (ji33))) 16)) + (wrap64 (16 * (wrap64 (bt x9_19 (wrap64 ((ji29) + 2)))))))]) x9_19 (wrap64 (x10_1 + 1)) x249000_19 x249001_19) else (none)) else (spec_Uniform.l0 kj19 x7_1 x9_19 (wrap64 (x10_1 + 1)) x249000_19 x249001_19)) else (spec_Uniform.l0 kj19 x7_1 x9_19 (wrap64 (x10_1 + 1)) x249000_19 x249001_19))) else (none)) else (none)) else (none)) else (none)) = some r := by first | (rw [hji33] at H; exact H) | (simp only [hji33] at H ⊢; exact H)
            have hji33w : (IntKind.i64.wrap ((ji29) + 1)) = ji33 := (i64_w _).trans hji33
            by_cases c34 : 0 ≤ (ji33)
            ·rw [if_pos c34] at H
             have c34b0 : decide (0 ≤ (ji33)) = true := decide_eq_true c34
             clear c34
             by_cases c35 : (ji33) < (x9_19.size : Int)
             ·rw [if_pos c35] at H
              have c35b0 : decide ((ji33) < (x9_19.size : Int)) = true := decide_eq_true c35
              clear c35
              obtain ⟨ji38, hji38⟩ : ∃ j_ : Int, (wrap64 ((ji29) + 2)) = j_ := ⟨_, rfl⟩
              replace H : (if 0 ≤ (ji38) then (if (ji38) < (x9_19.size : Int) then (if (wrap64 ((wrap64 (bt x9_19 (ji29))) + (wrap64 (256 * (Int.tmod (wrap64 (bt x9_19 (ji33))) 16))))) < 3329 then (if x7_1.length < 17592186044416 then ((some (x7_1 ++ [wrap64 ((wrap64 (bt x9_19 (ji29))) + (wrap64 (256 * (Int.tmod (wrap64 (bt x9_19 (ji33))) 16))))] : List Int)).bind fun y253 => (if (wrap64 ((wrap64 (Int.tdiv (wrap64 (bt x9_19 (ji33))) 16)) + (wrap64 (16 * (wrap64 (bt x9_19 (ji38))))))) < 3329 then (if (y253.length : Int) < 256 then (if y253.length < 17592186044416 then (spec_Uniform.l0 kj19 (y253 ++ [wrap64 ((wrap64 (Int.tdiv (wrap64 (bt x9_19 (ji33))) 16)) + (wrap64 (16 * (wrap64 (bt x9_19 (ji38))))))]) x9_19 (wrap64 (x10_1 + 1)) x249000_19 x249001_19) else (none)) else (spec_Uniform.l0 kj19 y253 x9_19 (wrap64 (x10_1 + 1)) x249000_19 x249001_19)) else (spec_Uniform.l0 kj19 y253 x9_19 (wrap64 (x10_1 + 1)) x249000_19 x249001_19))) else (none)) else (if (wrap64 ((wrap64 (Int.tdiv (wrap64 (bt x9_19 (ji33))) 16)) + (wrap64 (16 * (wrap64 (bt x9_19 (ji38))))))) < 3329 then (if (x7_1.length : Int) < 256 then (if x7_1.length < 17592186044416 then (spec_Uniform.l0 kj19 (x7_1 ++ [wrap64 ((wrap64 (Int.tdiv (wrap64 (bt x9_19 (ji33))) 16)) + (wrap64 (16 * (wrap64 (bt x9_19 (ji38))))))]) x9_19 (wrap64 (x10_1 + 1)) x249000_19 x249001_19) else (none)) else (spec_Uniform.l0 kj19 x7_1 x9_19 (wrap64 (x10_1 + 1)) x249000_19 x249001_19)) else (spec_Uniform.l0 kj19 x7_1 x9_19 (wrap64 (x10_1 + 1)) x249000_19 x249001_19))) else (none)) else (none)) = some r := by first | (rw [hji38] at H; exact H) | (simp only [hji38] at H ⊢; exact H)
              have hji38w : (IntKind.i64.wrap ((ji29) + 2)) = ji38 := (i64_w _).trans hji38
              by_cases c39 : 0 ≤ (ji38)
              ·rw [if_pos c39] at H
               have c39b0 : decide (0 ≤ (ji38)) = true := decide_eq_true c39
               clear c39
               by_cases c40 : (ji38) < (x9_19.size : Int)
               ·rw [if_pos c40] at H
                have c40b0 : decide ((ji38) < (x9_19.size : Int)) = true := decide_eq_true c40
                clear c40
                by_cases c42 : (wrap64 ((wrap64 (bt x9_19 (ji29))) + (wrap64 (256 * (Int.tmod (wrap64 (bt x9_19 (ji33))) 16))))) < 3329
                ·rw [if_pos c42] at H
                 have c42b0 : decide ((wrap64 ((wrap64 (bt x9_19 (ji29))) + (wrap64 (256 * (Int.tmod (wrap64 (bt x9_19 (ji33))) 16))))) < 3329) = true := decide_eq_true c42
                 clear c42
                 by_cases c43 : x7_1.length < 17592186044416
                 ·rw [if_pos c43] at H
                  have LMc43 := Aside0.mk c43
                  clear c43
                  obtain ⟨y253, hy253⟩ : ∃ y_ : List Int, y_ = (x7_1 ++ [wrap64 ((wrap64 (bt x9_19 (ji29))) + (wrap64 (256 * (Int.tmod (wrap64 (bt x9_19 (ji33))) 16))))]) := ⟨_, rfl⟩
                  replace H : (if (wrap64 ((wrap64 (Int.tdiv (wrap64 (bt x9_19 (ji33))) 16)) + (wrap64 (16 * (wrap64 (bt x9_19 (ji38))))))) < 3329 then (if (y253.length : Int) < 256 then (if y253.length < 17592186044416 then (spec_Uniform.l0 kj19 (y253 ++ [wrap64 ((wrap64 (Int.tdiv (wrap64 (bt x9_19 (ji33))) 16)) + (wrap64 (16 * (wrap64 (bt x9_19 (ji38))))))]) x9_19 (wrap64 (x10_1 + 1)) x249000_19 x249001_19) else (none)) else (spec_Uniform.l0 kj19 y253 x9_19 (wrap64 (x10_1 + 1)) x249000_19 x249001_19)) else (spec_Uniform.l0 kj19 y253 x9_19 (wrap64 (x10_1 + 1)) x249000_19 x249001_19)) = some r := by first | (rw [hy253]; with_reducible exact H) | (have H2_ := (Option.bind_some _ _).symm.trans H; rw [hy253]; with_reducible exact H2_) | (have H2_ := (Option.bind_some _ _).symm.trans H; with_reducible exact H2_) | with_reducible exact H | (rw [hy253]; exact H) | exact H
                  have Ny253 := Aside0.mk hy253
                  clear hy253
                  by_cases c44 : (wrap64 ((wrap64 (Int.tdiv (wrap64 (bt x9_19 (ji33))) 16)) + (wrap64 (16 * (wrap64 (bt x9_19 (ji38))))))) < 3329
                  ·rw [if_pos c44] at H
                   have c44b0 : decide ((wrap64 ((wrap64 (Int.tdiv (wrap64 (bt x9_19 (ji33))) 16)) + (wrap64 (16 * (wrap64 (bt x9_19 (ji38))))))) < 3329) = true := decide_eq_true c44
                   clear c44
                   by_cases c45 : (y253.length : Int) < 256
                   ·rw [if_pos c45] at H
                    have c45b0 : decide ((y253.length : Int) < 256) = true := decide_eq_true c45
                    have c45b1 : decide (y253.length < 256) = true := decide_eq_true (by omega)
                    clear c45
                    by_cases c46 : y253.length < 17592186044416
                    ·rw [if_pos c46] at H
                     have LMc46 := Aside0.mk c46
                     clear c46
                     obtain ⟨y256, hy256⟩ : ∃ y_ : List Int, y_ = (y253 ++ [wrap64 ((wrap64 (Int.tdiv (wrap64 (bt x9_19 (ji33))) 16)) + (wrap64 (16 * (wrap64 (bt x9_19 (ji38))))))]) := ⟨_, rfl⟩
                     replace H : (spec_Uniform.l0 kj19 y256 x9_19 (wrap64 (x10_1 + 1)) x249000_19 x249001_19) = some r := by first | (rw [hy256]; with_reducible exact H) | (have H2_ := (Option.bind_some _ _).symm.trans H; rw [hy256]; with_reducible exact H2_) | (have H2_ := (Option.bind_some _ _).symm.trans H; with_reducible exact H2_) | with_reducible exact H | (rw [hy256]; exact H) | exact H
                     have Ny256 := Aside0.mk hy256
                     clear hy256
                     have H' := Aside0.mk H
                     clear H
                     have p32 : 0 ≤ ((ji29) : Int) := of_decide_eq_true (by first | (with_reducible assumption) | assumption)
                     have q32 : (ji29) < (x9_19.size : Int) := of_decide_eq_true (by first | (with_reducible assumption) | assumption)
                     have hx32 := bt_at x9_19 (ji29)
                     replace p32 := eq_true p32
                     replace q32 := eq_true q32
                     have p36 : 0 ≤ ((ji33) : Int) := of_decide_eq_true (by first | (with_reducible assumption) | assumption)
                     have q36 : (ji33) < (x9_19.size : Int) := of_decide_eq_true (by first | (with_reducible assumption) | assumption)
                     have hx36 := bt_at x9_19 (ji33)
                     replace p36 := eq_true p36
                     replace q36 := eq_true q36
                     have p37 : 0 ≤ ((ji33) : Int) := of_decide_eq_true (by first | (with_reducible assumption) | assumption)
                     have q37 : (ji33) < (x9_19.size : Int) := of_decide_eq_true (by first | (with_reducible assumption) | assumption)
                     have hx37 := bt_at x9_19 (ji33)
                     replace p37 := eq_true p37
                     replace q37 := eq_true q37
                     have p41 : 0 ≤ ((ji38) : Int) := of_decide_eq_true (by first | (with_reducible assumption) | assumption)
                     have q41 : (ji38) < (x9_19.size : Int) := of_decide_eq_true (by first | (with_reducible assumption) | assumption)
                     have hx41 := bt_at x9_19 (ji38)
                     replace p41 := eq_true p41
                     replace q41 := eq_true q41
                     go_wp2_with (first | ((with_reducible refine gate_builtin (b := .append) (xs := #[.tmp 73, .tmp 75]) rfl ?_); (try (refine gate_guard (by rfl) ?_; dsimp only)); at_builtin; refine Kd.R_append (Kd.int .i64) (w0 := w) w.heap.size rfl (.tmp 73) (.tmp 75) 22 3 (.int .i64 0) 8 rfl Try.underlying22 info3 rfl (by decide) (by omega) u7 x7_1 (wrap64 ((wrap64 (bt x9_19 (ji29))) + (wrap64 (256 * (Int.tmod (wrap64 (bt x9_19 (ji33))) 16))))) [.int .i64 (wrap64 ((wrap64 (bt x9_19 (ji29))) + (wrap64 (256 * (Int.tmod (wrap64 (bt x9_19 (ji33))) 16)))))] (fun _ => True) (fun _ => False) rfl rfl ?aP (fun _ hk => hk.elim) ?aF ?aO ?aB ?aS ?aL ?_; (case aP => exact rfl); (case aB => exact (hS_ GE248.out)); (case aF => exact (fun _ _ => trivial)); (case aO => exact (rR_ HO_7.out)); (case aS => exact (below_size (hS_ GE248.out))); (case aL => have := LMc43.out; omega); intro v254 w47 ho hb hg hat; rw [← Ny253.out] at ho; have n0_ := Aside0.mk (blk_grown (g := gb248) (o := .cells #[.string x249000_19, .int .i64 x249001_19] 53 (0, 0)) (rK_ BK248.out) hg (Kd.R_ne HO_7.out BK248.out (by decide))); have n1_ := Aside0.mk (hb); have n2_ := Aside0.mk (ho); clear BK248; clear HB; clear HO_7; have BK248 := n0_; have HB := n1_; have HO255 := n2_; clear n0_ n1_ n2_; clear ho hb hg hat; obtain ⟨Ao48, co48, eo48⟩ := Kd.R_slice HO255.out; subst eo48) | ((with_reducible refine gate_builtin (b := .append) (xs := #[.tmp 84, .tmp 86]) rfl ?_); (try (refine gate_guard (by rfl) ?_; dsimp only)); at_builtin; refine Kd.R_append (Kd.int .i64) (w0 := w) w.heap.size rfl (.tmp 84) (.tmp 86) 22 3 (.int .i64 0) 8 rfl Try.underlying22 info3 rfl (by decide) (by omega) (.slice Ao48 y253.length co48) y253 (wrap64 ((wrap64 (Int.tdiv (wrap64 (bt x9_19 (ji33))) 16)) + (wrap64 (16 * (wrap64 (bt x9_19 (ji38))))))) [.int .i64 (wrap64 ((wrap64 (Int.tdiv (wrap64 (bt x9_19 (ji33))) 16)) + (wrap64 (16 * (wrap64 (bt x9_19 (ji38)))))))] (fun _ => True) (fun _ => False) rfl rfl ?aP (fun _ hk => hk.elim) ?aF ?aO ?aB ?aS ?aL ?_; (case aP => exact rfl); (case aB => exact (hS_ GE248.out)); (case aF => exact (fun _ _ => trivial)); (case aO => exact (rR_ HO255.out)); (case aS => exact (below_size (hS_ GE248.out))); (case aL => have := LMc46.out; omega); intro v257 w49 ho hb hg hat; rw [← Ny256.out] at ho; have n0_ := Aside0.mk (blk_grown (g := gb248) (o := .cells #[.string x249000_19, .int .i64 x249001_19] 53 (0, 0)) (rK_ BK248.out) hg (Kd.R_ne HO255.out BK248.out (by decide))); have n1_ := Aside0.mk (hb); have n2_ := Aside0.mk (ho); clear BK248; clear HB; clear HO255; have BK248 := n0_; have HB := n1_; have HO258 := n2_; clear n0_ n1_ n2_; clear ho hb hg hat))
                     repeat (go_quiet (first | ((with_reducible refine gate_builtin (b := .append) (xs := #[.tmp 73, .tmp 75]) rfl ?_); (try (refine gate_guard (by rfl) ?_; dsimp only)); at_builtin; refine Kd.R_append (Kd.int .i64) (w0 := w) w.heap.size rfl (.tmp 73) (.tmp 75) 22 3 (.int .i64 0) 8 rfl Try.underlying22 info3 rfl (by decide) (by omega) u7 x7_1 (wrap64 ((wrap64 (bt x9_19 (ji29))) + (wrap64 (256 * (Int.tmod (wrap64 (bt x9_19 (ji33))) 16))))) [.int .i64 (wrap64 ((wrap64 (bt x9_19 (ji29))) + (wrap64 (256 * (Int.tmod (wrap64 (bt x9_19 (ji33))) 16)))))] (fun _ => True) (fun _ => False) rfl rfl ?aP (fun _ hk => hk.elim) ?aF ?aO ?aB ?aS ?aL ?_; (case aP => exact rfl); (case aB => exact (hS_ GE248.out)); (case aF => exact (fun _ _ => trivial)); (case aO => exact (rR_ HO_7.out)); (case aS => exact (below_size (hS_ GE248.out))); (case aL => have := LMc43.out; omega); intro v254 w47 ho hb hg hat; rw [← Ny253.out] at ho; have n0_ := Aside0.mk (blk_grown (g := gb248) (o := .cells #[.string x249000_19, .int .i64 x249001_19] 53 (0, 0)) (rK_ BK248.out) hg (Kd.R_ne HO_7.out BK248.out (by decide))); have n1_ := Aside0.mk (hb); have n2_ := Aside0.mk (ho); clear BK248; clear HB; clear HO_7; have BK248 := n0_; have HB := n1_; have HO255 := n2_; clear n0_ n1_ n2_; clear ho hb hg hat; obtain ⟨Ao48, co48, eo48⟩ := Kd.R_slice HO255.out; subst eo48) | ((with_reducible refine gate_builtin (b := .append) (xs := #[.tmp 84, .tmp 86]) rfl ?_); (try (refine gate_guard (by rfl) ?_; dsimp only)); at_builtin; refine Kd.R_append (Kd.int .i64) (w0 := w) w.heap.size rfl (.tmp 84) (.tmp 86) 22 3 (.int .i64 0) 8 rfl Try.underlying22 info3 rfl (by decide) (by omega) (.slice Ao48 y253.length co48) y253 (wrap64 ((wrap64 (Int.tdiv (wrap64 (bt x9_19 (ji33))) 16)) + (wrap64 (16 * (wrap64 (bt x9_19 (ji38))))))) [.int .i64 (wrap64 ((wrap64 (Int.tdiv (wrap64 (bt x9_19 (ji33))) 16)) + (wrap64 (16 * (wrap64 (bt x9_19 (ji38)))))))] (fun _ => True) (fun _ => False) rfl rfl ?aP (fun _ hk => hk.elim) ?aF ?aO ?aB ?aS ?aL ?_; (case aP => exact rfl); (case aB => exact (hS_ GE248.out)); (case aF => exact (fun _ _ => trivial)); (case aO => exact (rR_ HO255.out)); (case aS => exact (below_size (hS_ GE248.out))); (case aL => have := LMc46.out; omega); intro v257 w49 ho hb hg hat; rw [← Ny256.out] at ho; have n0_ := Aside0.mk (blk_grown (g := gb248) (o := .cells #[.string x249000_19, .int .i64 x249001_19] 53 (0, 0)) (rK_ BK248.out) hg (Kd.R_ne HO255.out BK248.out (by decide))); have n1_ := Aside0.mk (hb); have n2_ := Aside0.mk (ho); clear BK248; clear HB; clear HO255; have BK248 := n0_; have HB := n1_; have HO258 := n2_; clear n0_ n1_ n2_; clear ho hb hg hat)); try go_wp2_with (first | ((with_reducible refine gate_builtin (b := .append) (xs := #[.tmp 73, .tmp 75]) rfl ?_); (try (refine gate_guard (by rfl) ?_; dsimp only)); at_builtin; refine Kd.R_append (Kd.int .i64) (w0 := w) w.heap.size rfl (.tmp 73) (.tmp 75) 22 3 (.int .i64 0) 8 rfl Try.underlying22 info3 rfl (by decide) (by omega) u7 x7_1 (wrap64 ((wrap64 (bt x9_19 (ji29))) + (wrap64 (256 * (Int.tmod (wrap64 (bt x9_19 (ji33))) 16))))) [.int .i64 (wrap64 ((wrap64 (bt x9_19 (ji29))) + (wrap64 (256 * (Int.tmod (wrap64 (bt x9_19 (ji33))) 16)))))] (fun _ => True) (fun _ => False) rfl rfl ?aP (fun _ hk => hk.elim) ?aF ?aO ?aB ?aS ?aL ?_; (case aP => exact rfl); (case aB => exact (hS_ GE248.out)); (case aF => exact (fun _ _ => trivial)); (case aO => exact (rR_ HO_7.out)); (case aS => exact (below_size (hS_ GE248.out))); (case aL => have := LMc43.out; omega); intro v254 w47 ho hb hg hat; rw [← Ny253.out] at ho; have n0_ := Aside0.mk (blk_grown (g := gb248) (o := .cells #[.string x249000_19, .int .i64 x249001_19] 53 (0, 0)) (rK_ BK248.out) hg (Kd.R_ne HO_7.out BK248.out (by decide))); have n1_ := Aside0.mk (hb); have n2_ := Aside0.mk (ho); clear BK248; clear HB; clear HO_7; have BK248 := n0_; have HB := n1_; have HO255 := n2_; clear n0_ n1_ n2_; clear ho hb hg hat; obtain ⟨Ao48, co48, eo48⟩ := Kd.R_slice HO255.out; subst eo48) | ((with_reducible refine gate_builtin (b := .append) (xs := #[.tmp 84, .tmp 86]) rfl ?_); (try (refine gate_guard (by rfl) ?_; dsimp only)); at_builtin; refine Kd.R_append (Kd.int .i64) (w0 := w) w.heap.size rfl (.tmp 84) (.tmp 86) 22 3 (.int .i64 0) 8 rfl Try.underlying22 info3 rfl (by decide) (by omega) (.slice Ao48 y253.length co48) y253 (wrap64 ((wrap64 (Int.tdiv (wrap64 (bt x9_19 (ji33))) 16)) + (wrap64 (16 * (wrap64 (bt x9_19 (ji38))))))) [.int .i64 (wrap64 ((wrap64 (Int.tdiv (wrap64 (bt x9_19 (ji33))) 16)) + (wrap64 (16 * (wrap64 (bt x9_19 (ji38)))))))] (fun _ => True) (fun _ => False) rfl rfl ?aP (fun _ hk => hk.elim) ?aF ?aO ?aB ?aS ?aL ?_; (case aP => exact rfl); (case aB => exact (hS_ GE248.out)); (case aF => exact (fun _ _ => trivial)); (case aO => exact (rR_ HO255.out)); (case aS => exact (below_size (hS_ GE248.out))); (case aL => have := LMc46.out; omega); intro v257 w49 ho hb hg hat; rw [← Ny256.out] at ho; have n0_ := Aside0.mk (blk_grown (g := gb248) (o := .cells #[.string x249000_19, .int .i64 x249001_19] 53 (0, 0)) (rK_ BK248.out) hg (Kd.R_ne HO255.out BK248.out (by decide))); have n1_ := Aside0.mk (hb); have n2_ := Aside0.mk (ho); clear BK248; clear HB; clear HO255; have BK248 := n0_; have HB := n1_; have HO258 := n2_; clear n0_ n1_ n2_; clear ho hb hg hat)))
                     go_roundg kj19
                     case measure => have := HK1.out; have := HJ15.out; have := HJ19.out; omega
                     case rel => exact ⟨(y256), (x9_19), (wrap64 (x10_1 + 1)), (x249000_19), (x249001_19), (by first | rfl | (simp; done) | (simp [*]; done)), (by first | rfl | (simp; done) | (simp [*]; done)), H', ⟨by have := HK1.out; have := HJ15.out; have := HJ19.out; omega⟩, ⟨rR_ HO258.out⟩, ⟨by (with_reducible repeat (first | refine blk_drewN ?_ _ | refine blk_drew ?_ | refine blk_alloc ?_ _)); exact BK248.out⟩, ⟨hS_ GE248.out⟩⟩
                    ·rw [if_neg c46] at H
                     exact absurd H (by simp)
                   ·rw [if_neg c45] at H
                    have c45b0 : decide ((y253.length : Int) < 256) = false := decide_eq_false c45
                    have c45b1 : decide (y253.length < 256) = false := decide_eq_false (by omega)
                    clear c45
                    have H' := Aside0.mk H
                    clear H
                    have p32 : 0 ≤ ((ji29) : Int) := of_decide_eq_true (by first | (with_reducible assumption) | assumption)
                    have q32 : (ji29) < (x9_19.size : Int) := of_decide_eq_true (by first | (with_reducible assumption) | assumption)
                    have hx32 := bt_at x9_19 (ji29)
                    replace p32 := eq_true p32
                    replace q32 := eq_true q32
                    have p36 : 0 ≤ ((ji33) : Int) := of_decide_eq_true (by first | (with_reducible assumption) | assumption)
                    have q36 : (ji33) < (x9_19.size : Int) := of_decide_eq_true (by first | (with_reducible assumption) | assumption)
                    have hx36 := bt_at x9_19 (ji33)
                    replace p36 := eq_true p36
                    replace q36 := eq_true q36
                    have p37 : 0 ≤ ((ji33) : Int) := of_decide_eq_true (by first | (with_reducible assumption) | assumption)
                    have q37 : (ji33) < (x9_19.size : Int) := of_decide_eq_true (by first | (with_reducible assumption) | assumption)
                    have hx37 := bt_at x9_19 (ji33)
                    replace p37 := eq_true p37
                    replace q37 := eq_true q37
                    have p41 : 0 ≤ ((ji38) : Int) := of_decide_eq_true (by first | (with_reducible assumption) | assumption)
                    have q41 : (ji38) < (x9_19.size : Int) := of_decide_eq_true (by first | (with_reducible assumption) | assumption)
                    have hx41 := bt_at x9_19 (ji38)
                    replace p41 := eq_true p41
                    replace q41 := eq_true q41
                    go_wp2_with (first | ((with_reducible refine gate_builtin (b := .append) (xs := #[.tmp 73, .tmp 75]) rfl ?_); (try (refine gate_guard (by rfl) ?_; dsimp only)); at_builtin; refine Kd.R_append (Kd.int .i64) (w0 := w) w.heap.size rfl (.tmp 73) (.tmp 75) 22 3 (.int .i64 0) 8 rfl Try.underlying22 info3 rfl (by decide) (by omega) u7 x7_1 (wrap64 ((wrap64 (bt x9_19 (ji29))) + (wrap64 (256 * (Int.tmod (wrap64 (bt x9_19 (ji33))) 16))))) [.int .i64 (wrap64 ((wrap64 (bt x9_19 (ji29))) + (wrap64 (256 * (Int.tmod (wrap64 (bt x9_19 (ji33))) 16)))))] (fun _ => True) (fun _ => False) rfl rfl ?aP (fun _ hk => hk.elim) ?aF ?aO ?aB ?aS ?aL ?_; (case aP => exact rfl); (case aB => exact (hS_ GE248.out)); (case aF => exact (fun _ _ => trivial)); (case aO => exact (rR_ HO_7.out)); (case aS => exact (below_size (hS_ GE248.out))); (case aL => have := LMc43.out; omega); intro v254 w50 ho hb hg hat; rw [← Ny253.out] at ho; have n0_ := Aside0.mk (blk_grown (g := gb248) (o := .cells #[.string x249000_19, .int .i64 x249001_19] 53 (0, 0)) (rK_ BK248.out) hg (Kd.R_ne HO_7.out BK248.out (by decide))); have n1_ := Aside0.mk (hb); have n2_ := Aside0.mk (ho); clear BK248; clear HB; clear HO_7; have BK248 := n0_; have HB := n1_; have HO255 := n2_; clear n0_ n1_ n2_; clear ho hb hg hat; obtain ⟨Ao51, co51, eo51⟩ := Kd.R_slice HO255.out; subst eo51))
                    repeat (go_quiet (first | ((with_reducible refine gate_builtin (b := .append) (xs := #[.tmp 73, .tmp 75]) rfl ?_); (try (refine gate_guard (by rfl) ?_; dsimp only)); at_builtin; refine Kd.R_append (Kd.int .i64) (w0 := w) w.heap.size rfl (.tmp 73) (.tmp 75) 22 3 (.int .i64 0) 8 rfl Try.underlying22 info3 rfl (by decide) (by omega) u7 x7_1 (wrap64 ((wrap64 (bt x9_19 (ji29))) + (wrap64 (256 * (Int.tmod (wrap64 (bt x9_19 (ji33))) 16))))) [.int .i64 (wrap64 ((wrap64 (bt x9_19 (ji29))) + (wrap64 (256 * (Int.tmod (wrap64 (bt x9_19 (ji33))) 16)))))] (fun _ => True) (fun _ => False) rfl rfl ?aP (fun _ hk => hk.elim) ?aF ?aO ?aB ?aS ?aL ?_; (case aP => exact rfl); (case aB => exact (hS_ GE248.out)); (case aF => exact (fun _ _ => trivial)); (case aO => exact (rR_ HO_7.out)); (case aS => exact (below_size (hS_ GE248.out))); (case aL => have := LMc43.out; omega); intro v254 w50 ho hb hg hat; rw [← Ny253.out] at ho; have n0_ := Aside0.mk (blk_grown (g := gb248) (o := .cells #[.string x249000_19, .int .i64 x249001_19] 53 (0, 0)) (rK_ BK248.out) hg (Kd.R_ne HO_7.out BK248.out (by decide))); have n1_ := Aside0.mk (hb); have n2_ := Aside0.mk (ho); clear BK248; clear HB; clear HO_7; have BK248 := n0_; have HB := n1_; have HO255 := n2_; clear n0_ n1_ n2_; clear ho hb hg hat; obtain ⟨Ao51, co51, eo51⟩ := Kd.R_slice HO255.out; subst eo51)); try go_wp2_with (first | ((with_reducible refine gate_builtin (b := .append) (xs := #[.tmp 73, .tmp 75]) rfl ?_); (try (refine gate_guard (by rfl) ?_; dsimp only)); at_builtin; refine Kd.R_append (Kd.int .i64) (w0 := w) w.heap.size rfl (.tmp 73) (.tmp 75) 22 3 (.int .i64 0) 8 rfl Try.underlying22 info3 rfl (by decide) (by omega) u7 x7_1 (wrap64 ((wrap64 (bt x9_19 (ji29))) + (wrap64 (256 * (Int.tmod (wrap64 (bt x9_19 (ji33))) 16))))) [.int .i64 (wrap64 ((wrap64 (bt x9_19 (ji29))) + (wrap64 (256 * (Int.tmod (wrap64 (bt x9_19 (ji33))) 16)))))] (fun _ => True) (fun _ => False) rfl rfl ?aP (fun _ hk => hk.elim) ?aF ?aO ?aB ?aS ?aL ?_; (case aP => exact rfl); (case aB => exact (hS_ GE248.out)); (case aF => exact (fun _ _ => trivial)); (case aO => exact (rR_ HO_7.out)); (case aS => exact (below_size (hS_ GE248.out))); (case aL => have := LMc43.out; omega); intro v254 w50 ho hb hg hat; rw [← Ny253.out] at ho; have n0_ := Aside0.mk (blk_grown (g := gb248) (o := .cells #[.string x249000_19, .int .i64 x249001_19] 53 (0, 0)) (rK_ BK248.out) hg (Kd.R_ne HO_7.out BK248.out (by decide))); have n1_ := Aside0.mk (hb); have n2_ := Aside0.mk (ho); clear BK248; clear HB; clear HO_7; have BK248 := n0_; have HB := n1_; have HO255 := n2_; clear n0_ n1_ n2_; clear ho hb hg hat; obtain ⟨Ao51, co51, eo51⟩ := Kd.R_slice HO255.out; subst eo51)))
                    go_roundg kj19
                    case measure => have := HK1.out; have := HJ15.out; have := HJ19.out; omega
                    case rel => exact ⟨(y253), (x9_19), (wrap64 (x10_1 + 1)), (x249000_19), (x249001_19), (by first | rfl | (simp; done) | (simp [*]; done)), (by first | rfl | (simp; done) | (simp [*]; done)), H', ⟨by have := HK1.out; have := HJ15.out; have := HJ19.out; omega⟩, ⟨rR_ HO255.out⟩, ⟨by (with_reducible repeat (first | refine blk_drewN ?_ _ | refine blk_drew ?_ | refine blk_alloc ?_ _)); exact BK248.out⟩, ⟨hS_ GE248.out⟩⟩
                  ·rw [if_neg c44] at H
                   have c44b0 : decide ((wrap64 ((wrap64 (Int.tdiv (wrap64 (bt x9_19 (ji33))) 16)) + (wrap64 (16 * (wrap64 (bt x9_19 (ji38))))))) < 3329) = false := decide_eq_false c44
                   clear c44
                   have H' := Aside0.mk H
                   clear H
                   have p32 : 0 ≤ ((ji29) : Int) := of_decide_eq_true (by first | (with_reducible assumption) | assumption)
                   have q32 : (ji29) < (x9_19.size : Int) := of_decide_eq_true (by first | (with_reducible assumption) | assumption)
                   have hx32 := bt_at x9_19 (ji29)
                   replace p32 := eq_true p32
                   replace q32 := eq_true q32
                   have p36 : 0 ≤ ((ji33) : Int) := of_decide_eq_true (by first | (with_reducible assumption) | assumption)
                   have q36 : (ji33) < (x9_19.size : Int) := of_decide_eq_true (by first | (with_reducible assumption) | assumption)
                   have hx36 := bt_at x9_19 (ji33)
                   replace p36 := eq_true p36
                   replace q36 := eq_true q36
                   have p37 : 0 ≤ ((ji33) : Int) := of_decide_eq_true (by first | (with_reducible assumption) | assumption)
                   have q37 : (ji33) < (x9_19.size : Int) := of_decide_eq_true (by first | (with_reducible assumption) | assumption)
                   have hx37 := bt_at x9_19 (ji33)
                   replace p37 := eq_true p37
                   replace q37 := eq_true q37
                   have p41 : 0 ≤ ((ji38) : Int) := of_decide_eq_true (by first | (with_reducible assumption) | assumption)
                   have q41 : (ji38) < (x9_19.size : Int) := of_decide_eq_true (by first | (with_reducible assumption) | assumption)
                   have hx41 := bt_at x9_19 (ji38)
                   replace p41 := eq_true p41
                   replace q41 := eq_true q41
                   go_wp2_with (first | ((with_reducible refine gate_builtin (b := .append) (xs := #[.tmp 73, .tmp 75]) rfl ?_); (try (refine gate_guard (by rfl) ?_; dsimp only)); at_builtin; refine Kd.R_append (Kd.int .i64) (w0 := w) w.heap.size rfl (.tmp 73) (.tmp 75) 22 3 (.int .i64 0) 8 rfl Try.underlying22 info3 rfl (by decide) (by omega) u7 x7_1 (wrap64 ((wrap64 (bt x9_19 (ji29))) + (wrap64 (256 * (Int.tmod (wrap64 (bt x9_19 (ji33))) 16))))) [.int .i64 (wrap64 ((wrap64 (bt x9_19 (ji29))) + (wrap64 (256 * (Int.tmod (wrap64 (bt x9_19 (ji33))) 16)))))] (fun _ => True) (fun _ => False) rfl rfl ?aP (fun _ hk => hk.elim) ?aF ?aO ?aB ?aS ?aL ?_; (case aP => exact rfl); (case aB => exact (hS_ GE248.out)); (case aF => exact (fun _ _ => trivial)); (case aO => exact (rR_ HO_7.out)); (case aS => exact (below_size (hS_ GE248.out))); (case aL => have := LMc43.out; omega); intro v254 w52 ho hb hg hat; rw [← Ny253.out] at ho; have n0_ := Aside0.mk (blk_grown (g := gb248) (o := .cells #[.string x249000_19, .int .i64 x249001_19] 53 (0, 0)) (rK_ BK248.out) hg (Kd.R_ne HO_7.out BK248.out (by decide))); have n1_ := Aside0.mk (hb); have n2_ := Aside0.mk (ho); clear BK248; clear HB; clear HO_7; have BK248 := n0_; have HB := n1_; have HO255 := n2_; clear n0_ n1_ n2_; clear ho hb hg hat))
                   repeat (go_quiet (first | ((with_reducible refine gate_builtin (b := .append) (xs := #[.tmp 73, .tmp 75]) rfl ?_); (try (refine gate_guard (by rfl) ?_; dsimp only)); at_builtin; refine Kd.R_append (Kd.int .i64) (w0 := w) w.heap.size rfl (.tmp 73) (.tmp 75) 22 3 (.int .i64 0) 8 rfl Try.underlying22 info3 rfl (by decide) (by omega) u7 x7_1 (wrap64 ((wrap64 (bt x9_19 (ji29))) + (wrap64 (256 * (Int.tmod (wrap64 (bt x9_19 (ji33))) 16))))) [.int .i64 (wrap64 ((wrap64 (bt x9_19 (ji29))) + (wrap64 (256 * (Int.tmod (wrap64 (bt x9_19 (ji33))) 16)))))] (fun _ => True) (fun _ => False) rfl rfl ?aP (fun _ hk => hk.elim) ?aF ?aO ?aB ?aS ?aL ?_; (case aP => exact rfl); (case aB => exact (hS_ GE248.out)); (case aF => exact (fun _ _ => trivial)); (case aO => exact (rR_ HO_7.out)); (case aS => exact (below_size (hS_ GE248.out))); (case aL => have := LMc43.out; omega); intro v254 w52 ho hb hg hat; rw [← Ny253.out] at ho; have n0_ := Aside0.mk (blk_grown (g := gb248) (o := .cells #[.string x249000_19, .int .i64 x249001_19] 53 (0, 0)) (rK_ BK248.out) hg (Kd.R_ne HO_7.out BK248.out (by decide))); have n1_ := Aside0.mk (hb); have n2_ := Aside0.mk (ho); clear BK248; clear HB; clear HO_7; have BK248 := n0_; have HB := n1_; have HO255 := n2_; clear n0_ n1_ n2_; clear ho hb hg hat)); try go_wp2_with (first | ((with_reducible refine gate_builtin (b := .append) (xs := #[.tmp 73, .tmp 75]) rfl ?_); (try (refine gate_guard (by rfl) ?_; dsimp only)); at_builtin; refine Kd.R_append (Kd.int .i64) (w0 := w) w.heap.size rfl (.tmp 73) (.tmp 75) 22 3 (.int .i64 0) 8 rfl Try.underlying22 info3 rfl (by decide) (by omega) u7 x7_1 (wrap64 ((wrap64 (bt x9_19 (ji29))) + (wrap64 (256 * (Int.tmod (wrap64 (bt x9_19 (ji33))) 16))))) [.int .i64 (wrap64 ((wrap64 (bt x9_19 (ji29))) + (wrap64 (256 * (Int.tmod (wrap64 (bt x9_19 (ji33))) 16)))))] (fun _ => True) (fun _ => False) rfl rfl ?aP (fun _ hk => hk.elim) ?aF ?aO ?aB ?aS ?aL ?_; (case aP => exact rfl); (case aB => exact (hS_ GE248.out)); (case aF => exact (fun _ _ => trivial)); (case aO => exact (rR_ HO_7.out)); (case aS => exact (below_size (hS_ GE248.out))); (case aL => have := LMc43.out; omega); intro v254 w52 ho hb hg hat; rw [← Ny253.out] at ho; have n0_ := Aside0.mk (blk_grown (g := gb248) (o := .cells #[.string x249000_19, .int .i64 x249001_19] 53 (0, 0)) (rK_ BK248.out) hg (Kd.R_ne HO_7.out BK248.out (by decide))); have n1_ := Aside0.mk (hb); have n2_ := Aside0.mk (ho); clear BK248; clear HB; clear HO_7; have BK248 := n0_; have HB := n1_; have HO255 := n2_; clear n0_ n1_ n2_; clear ho hb hg hat)))
                   go_roundg kj19
                   case measure => have := HK1.out; have := HJ15.out; have := HJ19.out; omega
                   case rel => exact ⟨(y253), (x9_19), (wrap64 (x10_1 + 1)), (x249000_19), (x249001_19), (by first | rfl | (simp; done) | (simp [*]; done)), (by first | rfl | (simp; done) | (simp [*]; done)), H', ⟨by have := HK1.out; have := HJ15.out; have := HJ19.out; omega⟩, ⟨rR_ HO255.out⟩, ⟨by (with_reducible repeat (first | refine blk_drewN ?_ _ | refine blk_drew ?_ | refine blk_alloc ?_ _)); exact BK248.out⟩, ⟨hS_ GE248.out⟩⟩
                 ·rw [if_neg c43] at H
                  exact absurd H (by simp)
                ·rw [if_neg c42] at H
                 have c42b0 : decide ((wrap64 ((wrap64 (bt x9_19 (ji29))) + (wrap64 (256 * (Int.tmod (wrap64 (bt x9_19 (ji33))) 16))))) < 3329) = false := decide_eq_false c42
                 clear c42
                 by_cases c53 : (wrap64 ((wrap64 (Int.tdiv (wrap64 (bt x9_19 (ji33))) 16)) + (wrap64 (16 * (wrap64 (bt x9_19 (ji38))))))) < 3329
                 ·rw [if_pos c53] at H
                  have c53b0 : decide ((wrap64 ((wrap64 (Int.tdiv (wrap64 (bt x9_19 (ji33))) 16)) + (wrap64 (16 * (wrap64 (bt x9_19 (ji38))))))) < 3329) = true := decide_eq_true c53
                  clear c53
                  by_cases c54 : (x7_1.length : Int) < 256
                  ·rw [if_pos c54] at H
                   have c54b0 : decide ((x7_1.length : Int) < 256) = true := decide_eq_true c54
                   have c54b1 : decide (x7_1.length < 256) = true := decide_eq_true (by omega)
                   clear c54
                   by_cases c55 : x7_1.length < 17592186044416
                   ·rw [if_pos c55] at H
                    have LMc55 := Aside0.mk c55
                    clear c55
                    obtain ⟨y259, hy259⟩ : ∃ y_ : List Int, y_ = (x7_1 ++ [wrap64 ((wrap64 (Int.tdiv (wrap64 (bt x9_19 (ji33))) 16)) + (wrap64 (16 * (wrap64 (bt x9_19 (ji38))))))]) := ⟨_, rfl⟩
                    replace H : (spec_Uniform.l0 kj19 y259 x9_19 (wrap64 (x10_1 + 1)) x249000_19 x249001_19) = some r := by first | (rw [hy259]; with_reducible exact H) | (have H2_ := (Option.bind_some _ _).symm.trans H; rw [hy259]; with_reducible exact H2_) | (have H2_ := (Option.bind_some _ _).symm.trans H; with_reducible exact H2_) | with_reducible exact H | (rw [hy259]; exact H) | exact H
                    have Ny259 := Aside0.mk hy259
                    clear hy259
                    have H' := Aside0.mk H
                    clear H
                    have p32 : 0 ≤ ((ji29) : Int) := of_decide_eq_true (by first | (with_reducible assumption) | assumption)
                    have q32 : (ji29) < (x9_19.size : Int) := of_decide_eq_true (by first | (with_reducible assumption) | assumption)
                    have hx32 := bt_at x9_19 (ji29)
                    replace p32 := eq_true p32
                    replace q32 := eq_true q32
                    have p36 : 0 ≤ ((ji33) : Int) := of_decide_eq_true (by first | (with_reducible assumption) | assumption)
                    have q36 : (ji33) < (x9_19.size : Int) := of_decide_eq_true (by first | (with_reducible assumption) | assumption)
                    have hx36 := bt_at x9_19 (ji33)
                    replace p36 := eq_true p36
                    replace q36 := eq_true q36
                    have p37 : 0 ≤ ((ji33) : Int) := of_decide_eq_true (by first | (with_reducible assumption) | assumption)
                    have q37 : (ji33) < (x9_19.size : Int) := of_decide_eq_true (by first | (with_reducible assumption) | assumption)
                    have hx37 := bt_at x9_19 (ji33)
                    replace p37 := eq_true p37
                    replace q37 := eq_true q37
                    have p41 : 0 ≤ ((ji38) : Int) := of_decide_eq_true (by first | (with_reducible assumption) | assumption)
                    have q41 : (ji38) < (x9_19.size : Int) := of_decide_eq_true (by first | (with_reducible assumption) | assumption)
                    have hx41 := bt_at x9_19 (ji38)
                    replace p41 := eq_true p41
                    replace q41 := eq_true q41
                    obtain ⟨Ao56, co56, eo56⟩ := Kd.R_slice HO_7.out
                    subst eo56
                    go_wp2_with (first | ((with_reducible refine gate_builtin (b := .append) (xs := #[.tmp 84, .tmp 86]) rfl ?_); (try (refine gate_guard (by rfl) ?_; dsimp only)); at_builtin; refine Kd.R_append (Kd.int .i64) (w0 := w) w.heap.size rfl (.tmp 84) (.tmp 86) 22 3 (.int .i64 0) 8 rfl Try.underlying22 info3 rfl (by decide) (by omega) (.slice Ao56 x7_1.length co56) x7_1 (wrap64 ((wrap64 (Int.tdiv (wrap64 (bt x9_19 (ji33))) 16)) + (wrap64 (16 * (wrap64 (bt x9_19 (ji38))))))) [.int .i64 (wrap64 ((wrap64 (Int.tdiv (wrap64 (bt x9_19 (ji33))) 16)) + (wrap64 (16 * (wrap64 (bt x9_19 (ji38)))))))] (fun _ => True) (fun _ => False) rfl rfl ?aP (fun _ hk => hk.elim) ?aF ?aO ?aB ?aS ?aL ?_; (case aP => exact rfl); (case aB => exact (hS_ GE248.out)); (case aF => exact (fun _ _ => trivial)); (case aO => exact (rR_ HO_7.out)); (case aS => exact (below_size (hS_ GE248.out))); (case aL => have := LMc55.out; omega); intro v260 w57 ho hb hg hat; rw [← Ny259.out] at ho; have n0_ := Aside0.mk (blk_grown (g := gb248) (o := .cells #[.string x249000_19, .int .i64 x249001_19] 53 (0, 0)) (rK_ BK248.out) hg (Kd.R_ne HO_7.out BK248.out (by decide))); have n1_ := Aside0.mk (hb); have n2_ := Aside0.mk (ho); clear BK248; clear HB; clear HO_7; have BK248 := n0_; have HB := n1_; have HO261 := n2_; clear n0_ n1_ n2_; clear ho hb hg hat))
                    repeat (go_quiet (first | ((with_reducible refine gate_builtin (b := .append) (xs := #[.tmp 84, .tmp 86]) rfl ?_); (try (refine gate_guard (by rfl) ?_; dsimp only)); at_builtin; refine Kd.R_append (Kd.int .i64) (w0 := w) w.heap.size rfl (.tmp 84) (.tmp 86) 22 3 (.int .i64 0) 8 rfl Try.underlying22 info3 rfl (by decide) (by omega) (.slice Ao56 x7_1.length co56) x7_1 (wrap64 ((wrap64 (Int.tdiv (wrap64 (bt x9_19 (ji33))) 16)) + (wrap64 (16 * (wrap64 (bt x9_19 (ji38))))))) [.int .i64 (wrap64 ((wrap64 (Int.tdiv (wrap64 (bt x9_19 (ji33))) 16)) + (wrap64 (16 * (wrap64 (bt x9_19 (ji38)))))))] (fun _ => True) (fun _ => False) rfl rfl ?aP (fun _ hk => hk.elim) ?aF ?aO ?aB ?aS ?aL ?_; (case aP => exact rfl); (case aB => exact (hS_ GE248.out)); (case aF => exact (fun _ _ => trivial)); (case aO => exact (rR_ HO_7.out)); (case aS => exact (below_size (hS_ GE248.out))); (case aL => have := LMc55.out; omega); intro v260 w57 ho hb hg hat; rw [← Ny259.out] at ho; have n0_ := Aside0.mk (blk_grown (g := gb248) (o := .cells #[.string x249000_19, .int .i64 x249001_19] 53 (0, 0)) (rK_ BK248.out) hg (Kd.R_ne HO_7.out BK248.out (by decide))); have n1_ := Aside0.mk (hb); have n2_ := Aside0.mk (ho); clear BK248; clear HB; clear HO_7; have BK248 := n0_; have HB := n1_; have HO261 := n2_; clear n0_ n1_ n2_; clear ho hb hg hat)); try go_wp2_with (first | ((with_reducible refine gate_builtin (b := .append) (xs := #[.tmp 84, .tmp 86]) rfl ?_); (try (refine gate_guard (by rfl) ?_; dsimp only)); at_builtin; refine Kd.R_append (Kd.int .i64) (w0 := w) w.heap.size rfl (.tmp 84) (.tmp 86) 22 3 (.int .i64 0) 8 rfl Try.underlying22 info3 rfl (by decide) (by omega) (.slice Ao56 x7_1.length co56) x7_1 (wrap64 ((wrap64 (Int.tdiv (wrap64 (bt x9_19 (ji33))) 16)) + (wrap64 (16 * (wrap64 (bt x9_19 (ji38))))))) [.int .i64 (wrap64 ((wrap64 (Int.tdiv (wrap64 (bt x9_19 (ji33))) 16)) + (wrap64 (16 * (wrap64 (bt x9_19 (ji38)))))))] (fun _ => True) (fun _ => False) rfl rfl ?aP (fun _ hk => hk.elim) ?aF ?aO ?aB ?aS ?aL ?_; (case aP => exact rfl); (case aB => exact (hS_ GE248.out)); (case aF => exact (fun _ _ => trivial)); (case aO => exact (rR_ HO_7.out)); (case aS => exact (below_size (hS_ GE248.out))); (case aL => have := LMc55.out; omega); intro v260 w57 ho hb hg hat; rw [← Ny259.out] at ho; have n0_ := Aside0.mk (blk_grown (g := gb248) (o := .cells #[.string x249000_19, .int .i64 x249001_19] 53 (0, 0)) (rK_ BK248.out) hg (Kd.R_ne HO_7.out BK248.out (by decide))); have n1_ := Aside0.mk (hb); have n2_ := Aside0.mk (ho); clear BK248; clear HB; clear HO_7; have BK248 := n0_; have HB := n1_; have HO261 := n2_; clear n0_ n1_ n2_; clear ho hb hg hat)))
                    go_roundg kj19
                    case measure => have := HK1.out; have := HJ15.out; have := HJ19.out; omega
                    case rel => exact ⟨(y259), (x9_19), (wrap64 (x10_1 + 1)), (x249000_19), (x249001_19), (by first | rfl | (simp; done) | (simp [*]; done)), (by first | rfl | (simp; done) | (simp [*]; done)), H', ⟨by have := HK1.out; have := HJ15.out; have := HJ19.out; omega⟩, ⟨rR_ HO261.out⟩, ⟨by (with_reducible repeat (first | refine blk_drewN ?_ _ | refine blk_drew ?_ | refine blk_alloc ?_ _)); exact BK248.out⟩, ⟨hS_ GE248.out⟩⟩
                   ·rw [if_neg c55] at H
                    exact absurd H (by simp)
                  ·rw [if_neg c54] at H
                   have c54b0 : decide ((x7_1.length : Int) < 256) = false := decide_eq_false c54
                   have c54b1 : decide (x7_1.length < 256) = false := decide_eq_false (by omega)
                   clear c54
                   have H' := Aside0.mk H
                   clear H
                   have p32 : 0 ≤ ((ji29) : Int) := of_decide_eq_true (by first | (with_reducible assumption) | assumption)
                   have q32 : (ji29) < (x9_19.size : Int) := of_decide_eq_true (by first | (with_reducible assumption) | assumption)
                   have hx32 := bt_at x9_19 (ji29)
                   replace p32 := eq_true p32
                   replace q32 := eq_true q32
                   have p36 : 0 ≤ ((ji33) : Int) := of_decide_eq_true (by first | (with_reducible assumption) | assumption)
                   have q36 : (ji33) < (x9_19.size : Int) := of_decide_eq_true (by first | (with_reducible assumption) | assumption)
                   have hx36 := bt_at x9_19 (ji33)
                   replace p36 := eq_true p36
                   replace q36 := eq_true q36
                   have p37 : 0 ≤ ((ji33) : Int) := of_decide_eq_true (by first | (with_reducible assumption) | assumption)
                   have q37 : (ji33) < (x9_19.size : Int) := of_decide_eq_true (by first | (with_reducible assumption) | assumption)
                   have hx37 := bt_at x9_19 (ji33)
                   replace p37 := eq_true p37
                   replace q37 := eq_true q37
                   have p41 : 0 ≤ ((ji38) : Int) := of_decide_eq_true (by first | (with_reducible assumption) | assumption)
                   have q41 : (ji38) < (x9_19.size : Int) := of_decide_eq_true (by first | (with_reducible assumption) | assumption)
                   have hx41 := bt_at x9_19 (ji38)
                   replace p41 := eq_true p41
                   replace q41 := eq_true q41
                   obtain ⟨Ao58, co58, eo58⟩ := Kd.R_slice HO_7.out
                   subst eo58
                   go_wp2
                   repeat (go_quiet (fail); try go_wp2)
                   go_roundg kj19
                   case measure => have := HK1.out; have := HJ15.out; have := HJ19.out; omega
                   case rel => exact ⟨(x7_1), (x9_19), (wrap64 (x10_1 + 1)), (x249000_19), (x249001_19), (by first | rfl | (simp; done) | (simp [*]; done)), (by first | rfl | (simp; done) | (simp [*]; done)), H', ⟨by have := HK1.out; have := HJ15.out; have := HJ19.out; omega⟩, ⟨rR_ HO_7.out⟩, ⟨by (with_reducible repeat (first | refine blk_drewN ?_ _ | refine blk_drew ?_ | refine blk_alloc ?_ _)); exact BK248.out⟩, ⟨hS_ GE248.out⟩⟩
                 ·rw [if_neg c53] at H
                  have c53b0 : decide ((wrap64 ((wrap64 (Int.tdiv (wrap64 (bt x9_19 (ji33))) 16)) + (wrap64 (16 * (wrap64 (bt x9_19 (ji38))))))) < 3329) = false := decide_eq_false c53
                  clear c53
                  have H' := Aside0.mk H
                  clear H
                  have p32 : 0 ≤ ((ji29) : Int) := of_decide_eq_true (by first | (with_reducible assumption) | assumption)
                  have q32 : (ji29) < (x9_19.size : Int) := of_decide_eq_true (by first | (with_reducible assumption) | assumption)
                  have hx32 := bt_at x9_19 (ji29)
                  replace p32 := eq_true p32
                  replace q32 := eq_true q32
                  have p36 : 0 ≤ ((ji33) : Int) := of_decide_eq_true (by first | (with_reducible assumption) | assumption)
                  have q36 : (ji33) < (x9_19.size : Int) := of_decide_eq_true (by first | (with_reducible assumption) | assumption)
                  have hx36 := bt_at x9_19 (ji33)
                  replace p36 := eq_true p36
                  replace q36 := eq_true q36
                  have p37 : 0 ≤ ((ji33) : Int) := of_decide_eq_true (by first | (with_reducible assumption) | assumption)
                  have q37 : (ji33) < (x9_19.size : Int) := of_decide_eq_true (by first | (with_reducible assumption) | assumption)
                  have hx37 := bt_at x9_19 (ji33)
                  replace p37 := eq_true p37
                  replace q37 := eq_true q37
                  have p41 : 0 ≤ ((ji38) : Int) := of_decide_eq_true (by first | (with_reducible assumption) | assumption)
                  have q41 : (ji38) < (x9_19.size : Int) := of_decide_eq_true (by first | (with_reducible assumption) | assumption)
                  have hx41 := bt_at x9_19 (ji38)
                  replace p41 := eq_true p41
                  replace q41 := eq_true q41
                  go_wp2
                  repeat (go_quiet (fail); try go_wp2)
                  go_roundg kj19
                  case measure => have := HK1.out; have := HJ15.out; have := HJ19.out; omega
                  case rel => exact ⟨(x7_1), (x9_19), (wrap64 (x10_1 + 1)), (x249000_19), (x249001_19), (by first | rfl | (simp; done) | (simp [*]; done)), (by first | rfl | (simp; done) | (simp [*]; done)), H', ⟨by have := HK1.out; have := HJ15.out; have := HJ19.out; omega⟩, ⟨rR_ HO_7.out⟩, ⟨by (with_reducible repeat (first | refine blk_drewN ?_ _ | refine blk_drew ?_ | refine blk_alloc ?_ _)); exact BK248.out⟩, ⟨hS_ GE248.out⟩⟩
               ·rw [if_neg c40] at H
                exact absurd H (by simp)
              ·rw [if_neg c39] at H
               exact absurd H (by simp)
             ·rw [if_neg c35] at H
              exact absurd H (by simp)
            ·rw [if_neg c34] at H
             exact absurd H (by simp)
           ·rw [if_neg c31] at H
            exact absurd H (by simp)
          ·rw [if_neg c30] at H
           exact absurd H (by simp)
       ·replace c19 := Bool.eq_false_iff.mpr c19
        subst c19
        have H1 : (spec_Uniform.l1 kj15 x7_1) = some r := by rw [if_neg (show ¬ (false = true) by decide)] at H; exact H
        clear H
        have H := H1
        clear H1
        have H' := Aside0.mk H
        clear H
        go_wp2
        repeat (go_quiet (fail); try go_wp2)
        go_loopg [7] kj15 (fun kq v7 w' => ∃ (x7_3 : List Int), Aside0 (spec_Uniform.l1 kq x7_3 = some r) ∧ Aside0 (kq ≤ kj15) ∧ Aside0 (Kd.R (Kd.int .i64) 3 w' w.heap.size (fun _ => True) v7 x7_3) ∧ Aside0 (w'.heap[gb248]? = some (.cells #[.string x249000_1, .int .i64 x249001_1] 53 (0, 0))) ∧ Aside0 (Below w.heap.size w w'))
        case atStart => exact ⟨(x7_1), H', ⟨Nat.le_refl _⟩, ⟨rR_ HO_7.out⟩, ⟨by (with_reducible repeat (first | refine blk_drewN ?_ _ | refine blk_drew ?_ | refine blk_alloc ?_ _)); exact BK248.out⟩, ⟨hS_ GE248.out⟩⟩
        case round =>
         clear H'
         try clear c1
         try clear c2
         try clear p2
         try clear c3
         try clear p3
         try clear q3
         try clear hx3
         try clear c4
         try clear p4
         try clear q4
         try clear hx4
         try clear c5
         try clear c5b0
         try clear c5b1
         try clear c5b2
         try clear p6
         try clear c7
         try clear c7b0
         try clear c7b1
         try clear c7b2
         try clear c13
         try clear c17
         try clear c17b0
         try clear c19
         try clear c21
         try clear c21b0
         try clear c21b1
         try clear c26
         try clear c30
         try clear c30b0
         try clear c31
         try clear c31b0
         try clear p32
         try clear q32
         try clear hx32
         try clear c34
         try clear c34b0
         try clear c35
         try clear c35b0
         try clear p36
         try clear q36
         try clear hx36
         try clear p37
         try clear q37
         try clear hx37
         try clear c39
         try clear c39b0
         try clear c40
         try clear c40b0
         try clear p41
         try clear q41
         try clear hx41
         try clear c42
         try clear c42b0
         try clear c43
         try clear c44
         try clear c44b0
         try clear c45
         try clear c45b0
         try clear c45b1
         try clear c46
         try clear c53
         try clear c53b0
         try clear c54
         try clear c54b0
         try clear c54b1
         try clear c55
         try clear hcz15_0
         try clear hcz15_1
         try clear hcz23_0
         try clear hcz23_1
         try clear hcz27_0
         try clear hcz27_1
         try clear hcz28_0
         try clear hcz28_1
         try clear hfz15_0
         try clear hfz15_1
         try clear hfz23_0
         try clear hfz23_1
         try clear hfz27_0
         try clear hfz27_1
         try clear hfz28_0
         try clear hfz28_1
         try clear p2
         try clear p32
         try clear p36
         try clear p37
         try clear p41
         try clear p6
         try clear q32
         try clear q36
         try clear q37
         try clear q41
         obtain ⟨x7_3, HA, HK3, HO_7, BK248, HB⟩ := hrel
         cases gk with
         | zero => exact absurd HA.out (by simp [spec_Uniform.l1])
         | succ k3 =>
          have H := HA.out
          clear HA
          simp only [spec_Uniform.l1] at H
          by_cases c59 : (x7_3.length : Int) < 256
          ·rw [if_pos c59] at H
           have c59b0 : decide ((x7_3.length : Int) < 256) = true := decide_eq_true c59
           have c59b1 : decide (x7_3.length < 256) = true := decide_eq_true (by omega)
           clear c59
           by_cases c60 : x7_3.length < 17592186044416
           ·rw [if_pos c60] at H
            have LMc60 := Aside0.mk c60
            clear c60
            obtain ⟨y262, hy262⟩ : ∃ y_ : List Int, y_ = (x7_3 ++ [0]) := ⟨_, rfl⟩
            replace H : (spec_Uniform.l1 k3 y262) = some r := by first | (rw [hy262]; with_reducible exact H) | (have H2_ := (Option.bind_some _ _).symm.trans H; rw [hy262]; with_reducible exact H2_) | (have H2_ := (Option.bind_some _ _).symm.trans H; with_reducible exact H2_) | with_reducible exact H | (rw [hy262]; exact H) | exact H
            have Ny262 := Aside0.mk hy262
            clear hy262
            have H' := Aside0.mk H
            clear H
            obtain ⟨Ao61, co61, eo61⟩ := Kd.R_slice HO_7.out
            subst eo61
            go_wp2_with (first | ((with_reducible refine gate_builtin (b := .append) (xs := #[.tmp 91, .tmp 92]) rfl ?_); (try (refine gate_guard (by rfl) ?_; dsimp only)); at_builtin; refine Kd.R_append (Kd.int .i64) (w0 := w) w.heap.size rfl (.tmp 91) (.tmp 92) 22 3 (.int .i64 0) 8 rfl Try.underlying22 info3 rfl (by decide) (by omega) (.slice Ao61 x7_3.length co61) x7_3 0 [.int .i64 0] (fun _ => True) (fun _ => False) rfl rfl ?aP (fun _ hk => hk.elim) ?aF ?aO ?aB ?aS ?aL ?_; (case aP => exact rfl); (case aB => exact (hS_ GE248.out)); (case aF => exact (fun _ _ => trivial)); (case aO => exact (rR_ HO_7.out)); (case aS => exact (below_size (hS_ GE248.out))); (case aL => have := LMc60.out; omega); intro v263 w62 ho hb hg hat; rw [← Ny262.out] at ho; have n0_ := Aside0.mk (blk_grown (g := gb248) (o := .cells #[.string x249000_1, .int .i64 x249001_1] 53 (0, 0)) (rK_ BK248.out) hg (Kd.R_ne HO_7.out BK248.out (by decide))); have n1_ := Aside0.mk (hb); have n2_ := Aside0.mk (ho); clear BK248; clear HB; clear HO_7; have BK248 := n0_; have HB := n1_; have HO264 := n2_; clear n0_ n1_ n2_; clear ho hb hg hat))
            repeat (go_quiet (first | ((with_reducible refine gate_builtin (b := .append) (xs := #[.tmp 91, .tmp 92]) rfl ?_); (try (refine gate_guard (by rfl) ?_; dsimp only)); at_builtin; refine Kd.R_append (Kd.int .i64) (w0 := w) w.heap.size rfl (.tmp 91) (.tmp 92) 22 3 (.int .i64 0) 8 rfl Try.underlying22 info3 rfl (by decide) (by omega) (.slice Ao61 x7_3.length co61) x7_3 0 [.int .i64 0] (fun _ => True) (fun _ => False) rfl rfl ?aP (fun _ hk => hk.elim) ?aF ?aO ?aB ?aS ?aL ?_; (case aP => exact rfl); (case aB => exact (hS_ GE248.out)); (case aF => exact (fun _ _ => trivial)); (case aO => exact (rR_ HO_7.out)); (case aS => exact (below_size (hS_ GE248.out))); (case aL => have := LMc60.out; omega); intro v263 w62 ho hb hg hat; rw [← Ny262.out] at ho; have n0_ := Aside0.mk (blk_grown (g := gb248) (o := .cells #[.string x249000_1, .int .i64 x249001_1] 53 (0, 0)) (rK_ BK248.out) hg (Kd.R_ne HO_7.out BK248.out (by decide))); have n1_ := Aside0.mk (hb); have n2_ := Aside0.mk (ho); clear BK248; clear HB; clear HO_7; have BK248 := n0_; have HB := n1_; have HO264 := n2_; clear n0_ n1_ n2_; clear ho hb hg hat)); try go_wp2_with (first | ((with_reducible refine gate_builtin (b := .append) (xs := #[.tmp 91, .tmp 92]) rfl ?_); (try (refine gate_guard (by rfl) ?_; dsimp only)); at_builtin; refine Kd.R_append (Kd.int .i64) (w0 := w) w.heap.size rfl (.tmp 91) (.tmp 92) 22 3 (.int .i64 0) 8 rfl Try.underlying22 info3 rfl (by decide) (by omega) (.slice Ao61 x7_3.length co61) x7_3 0 [.int .i64 0] (fun _ => True) (fun _ => False) rfl rfl ?aP (fun _ hk => hk.elim) ?aF ?aO ?aB ?aS ?aL ?_; (case aP => exact rfl); (case aB => exact (hS_ GE248.out)); (case aF => exact (fun _ _ => trivial)); (case aO => exact (rR_ HO_7.out)); (case aS => exact (below_size (hS_ GE248.out))); (case aL => have := LMc60.out; omega); intro v263 w62 ho hb hg hat; rw [← Ny262.out] at ho; have n0_ := Aside0.mk (blk_grown (g := gb248) (o := .cells #[.string x249000_1, .int .i64 x249001_1] 53 (0, 0)) (rK_ BK248.out) hg (Kd.R_ne HO_7.out BK248.out (by decide))); have n1_ := Aside0.mk (hb); have n2_ := Aside0.mk (ho); clear BK248; clear HB; clear HO_7; have BK248 := n0_; have HB := n1_; have HO264 := n2_; clear n0_ n1_ n2_; clear ho hb hg hat)))
            go_roundg k3
            case measure => have := HK1.out; have := HJ15.out; have := HK3.out; omega
            case rel => exact ⟨(y262), H', ⟨by have := HK1.out; have := HJ15.out; have := HK3.out; omega⟩, ⟨rR_ HO264.out⟩, ⟨by (with_reducible repeat (first | refine blk_drewN ?_ _ | refine blk_drew ?_ | refine blk_alloc ?_ _)); exact BK248.out⟩, ⟨hS_ GE248.out⟩⟩
           ·rw [if_neg c60] at H
            exact absurd H (by simp)
          ·rw [if_neg c59] at H
           have c59b0 : decide ((x7_3.length : Int) < 256) = false := decide_eq_false c59
           have c59b1 : decide (x7_3.length < 256) = false := decide_eq_false (by omega)
           clear c59
           obtain rfl := Option.some.inj H
           obtain ⟨Ao63, co63, eo63⟩ := Kd.R_slice HO_7.out
           subst eo63
           go_wp2
           repeat (go_quiet (fail); try go_wp2)
           go_ret
           exact ⟨_, by first | rfl | (simp [errW_none, errW_some] <;> rfl) | (simp [*, errW_none, errW_some] <;> rfl), rR_ HO_7.out, hS_ GE248.out⟩
  ·rw [if_neg c7] at H
   exact absurd H (by simp)
 ·rw [if_neg c5] at H
  exact absurd H (by simp)

end Go.Proofs.Ytnckhligcdieaaa.P
