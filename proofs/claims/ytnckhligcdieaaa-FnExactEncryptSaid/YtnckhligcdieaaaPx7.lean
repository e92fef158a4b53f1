-- printed texts of this session, regrouped
import Derived.Test.YtnckhligcdieaaaMWC
import Derived.Test.YtnckhligcdieaaaMWA
import Derived.Test.YtnckhligcdieaaaMW7
import Derived.Test.YtnckhligcdieaaaMW6
import Derived.Test.YtnckhligcdieaaaPx0
import Derived.Test.YtnckhligcdieaaaPx5
import Derived.Test.YtnckhligcdieaaaPx6
namespace Go.Proofs.Ytnckhligcdieaaa.P
open Go.RowKit Go.Proofs.YtnckhligcdieaaaW.PrintWords Go.Proofs.YtnckhligcdieaaaW.PrintLast Go.Proofs.YtnckhligcdieaaaW.PrintMore
attribute [local go_sem] max2_int min2_int max_two min_two max_three min_three max_four min_four   -- for this text's walks alone
set_option linter.unusedVariables false
set_option linter.unusedSimpArgs false
set_option maxHeartbeats 8000000
set_option maxRecDepth 100000

/-! ### spec_Unpack: function 114 -/
mutual
def spec_Unpack.j0 : Nat → ByteArray → Int → Int → List Int → Bool → Option (List Int × Bool)
 | 0, _, _, _, _, _ => none
 | k + 1, x0, x1, x2, x8, x31 => if x31 = true then (some (x8, false)) else (spec_Unpack.l0 k x0 x1 x2 x8 0 0 0 0)
def spec_Unpack.l0 : Nat → ByteArray → Int → Int → List Int → Int → Int → Int → Int → Option (List Int × Bool)
 | 0, _, _, _, _, _, _, _, _ => none
 | k + 1, x0, x1, x2, x8, x9, x10, x11, x12 => if x12 < x2 then (spec_Unpack.l1 k x0 x1 x2 x8 x9 x10 x11 x12) else (if x9 = 0 then (some (x8, true)) else (some ((([] : List Int)), false)))
def spec_Unpack.l1 : Nat → ByteArray → Int → Int → List Int → Int → Int → Int → Int → Option (List Int × Bool)
 | 0, _, _, _, _, _, _, _, _ => none
 | k + 1, x0, x1, x2, x8, x9, x10, x11, x12 => if x10 < x1 then (if 0 ≤ x11 then (if x11 < (x0.size : Int) then ((spec_l11Two.f k x10).bind fun t817 => (spec_Unpack.l1 k x0 x1 x2 x8 (wrap64 (x9 + (wrap64 ((wrap64 (bt x0 x11)) * t817)))) (wrap64 (x10 + 8)) (wrap64 (x11 + 1)) x12)) else (none)) else (none)) else ((spec_l11Two.f k x1).bind fun t818 => (if t818 = 0 then (none) else (if x8.length < 17592186044416 then ((spec_l11Two.f k x1).bind fun t822 => (if t822 = 0 then (none) else (spec_Unpack.l0 k x0 x1 x2 (x8 ++ [Int.tmod x9 t818]) (wrap64 (Int.tdiv x9 t822)) (wrap64 (x10 - x1)) x11 (wrap64 (x12 + 1))))) else (none))))
end
def spec_Unpack.f (k : Nat) (a0 : ByteArray) (a1 : Int) (a2 : Int) : Option (List Int × Bool) := (some (([] : List Int) : List Int)).bind fun y809 => ((spec_l01In.f a1 1 12).bind fun t812 => (if t812 = true then ((spec_l01In.f a2 0 1000).bind fun t813 => (if t813 = true then (spec_Unpack.j0 k a0 a1 a2 y809 ((a0.size : Int) != (wrap64 (Int.tdiv (wrap64 ((wrap64 (a2 * a1)) + 7)) 8)))) else (spec_Unpack.j0 k a0 a1 a2 y809 true))) else (spec_Unpack.j0 k a0 a1 a2 y809 true)))
theorem spec_Unpack.mono_l : ∀ k, (∀ y0 y1 y2 y3 y4, LeO (spec_Unpack.j0 k y0 y1 y2 y3 y4) (spec_Unpack.j0 (k + 1) y0 y1 y2 y3 y4)) ∧ (∀ y0 y1 y2 y3 y4 y5 y6 y7, LeO (spec_Unpack.l0 k y0 y1 y2 y3 y4 y5 y6 y7) (spec_Unpack.l0 (k + 1) y0 y1 y2 y3 y4 y5 y6 y7)) ∧ (∀ y0 y1 y2 y3 y4 y5 y6 y7, LeO (spec_Unpack.l1 k y0 y1 y2 y3 y4 y5 y6 y7) (spec_Unpack.l1 (k + 1) y0 y1 y2 y3 y4 y5 y6 y7))
 | 0 => ⟨fun _ _ _ _ _ r h => by simp [spec_Unpack.j0] at h, fun _ _ _ _ _ _ _ _ r h => by simp [spec_Unpack.l0] at h, fun _ _ _ _ _ _ _ _ r h => by simp [spec_Unpack.l1] at h⟩
 | k + 1 => by
  obtain ⟨ih0, ih1, ih2⟩ := spec_Unpack.mono_l k
  refine ⟨?_, ?_, ?_⟩ <;> (intros; (first | unfold spec_Unpack.j0 | unfold spec_Unpack.l0 | unfold spec_Unpack.l1); exact o4_ ih0 ih1 ih2 spec_l11Two.mono)
theorem spec_Unpack.mono : ∀ a0 a1 a2 k, LeO (spec_Unpack.f k a0 a1 a2) (spec_Unpack.f (k + 1) a0 a1 a2) := by
 intro a0 a1 a2 k
 obtain ⟨ih0, ih1, ih2⟩ := spec_Unpack.mono_l k
 unfold spec_Unpack.f
 exact o4_ ih0 ih1 ih2 spec_l11Two.mono
theorem spec_Unpack.calls (k : Nat) (a0 : ByteArray) (a1 : Int) (a2 : Int) (r1 : List Int) (r2 : Bool) (w : World) (h : spec_Unpack.f k a0 a1 a2 = some (r1, r2)) :
  Calls Try.prog 114 #[.string a0, .int .i64 a1, .int .i64 a2] w fun e w' => ∃ v0_ : Value, e = .returned (.tuple #[v0_, .bool r2]) ∧ Kd.R (Kd.int .i64) 3 w' w.heap.size (fun _ => True) v0_ r1 ∧ Below w.heap.size w w' := by
 have HB := Aside0.mk (Below.refl w.heap.size w)
 delta spec_Unpack.f at h
 have H := h
 clear h
 obtain ⟨y809, hy809⟩ : ∃ y_ : List Int, y_ = (([] : List Int)) := ⟨_, rfl⟩
 first | replace H := yb_ hy809 H | rw [← hy809] at H
 have Ny809 := Aside0.mk hy809
 clear hy809
 have HC4 := Aside0.mk H
 clear H
 go_enter Try.func114, Try.ntmps114
 go_upto_region 2 with (first | ((with_reducible refine gate_dst (N := 13) rfl ?_); (try (refine gate_guard (by rfl) ?_; dsimp only)); refine Kd.R_lit (Kd.int .i64) _ 3 ?hg (N := 13) ?hd (xs := ([] : List Int)) (inner := []) (ok := fun _ => True) (okp := fun _ => True) ?hr ?hp (fun _ hk => hk) trivial (Below.refl _ _) (Nat.le_refl _) (by simp) ?_; (case hd => rfl); (case hg => rfl); (case hr => first | (go_simp; done) | (go_simp; rfl)); (case hp => exact (Reps.none _ _)); intro v810 w5 ho6 hb hg_ hnew_; clear hg_ hnew_; (first | rw [← Ny809.out] at ho6 | (simp only [Int.reduceToNat] at ho6; rw [← Ny809.out] at ho6)); have n_ := b_ (Kd.R_lower ho6 (below_size (hB_))) <| c_ (below_step (hB_) hb); clear HB; obtain ⟨HO811, HB⟩ := n_; clear hb ho6))
 repeat (go_quiet (first | ((with_reducible refine gate_dst (N := 13) rfl ?_); (try (refine gate_guard (by rfl) ?_; dsimp only)); refine Kd.R_lit (Kd.int .i64) _ 3 ?hg (N := 13) ?hd (xs := ([] : List Int)) (inner := []) (ok := fun _ => True) (okp := fun _ => True) ?hr ?hp (fun _ hk => hk) trivial (Below.refl _ _) (Nat.le_refl _) (by simp) ?_; (case hd => rfl); (case hg => rfl); (case hr => first | (go_simp; done) | (go_simp; rfl)); (case hp => exact (Reps.none _ _)); intro v810 w5 ho6 hb hg_ hnew_; clear hg_ hnew_; (first | rw [← Ny809.out] at ho6 | (simp only [Int.reduceToNat] at ho6; rw [← Ny809.out] at ho6)); have n_ := b_ (Kd.R_lower ho6 (below_size (hB_))) <| c_ (below_step (hB_) hb); clear HB; obtain ⟨HO811, HB⟩ := n_; clear hb ho6)); go_upto_region 2 with (first | ((with_reducible refine gate_dst (N := 13) rfl ?_); (try (refine gate_guard (by rfl) ?_; dsimp only)); refine Kd.R_lit (Kd.int .i64) _ 3 ?hg (N := 13) ?hd (xs := ([] : List Int)) (inner := []) (ok := fun _ => True) (okp := fun _ => True) ?hr ?hp (fun _ hk => hk) trivial (Below.refl _ _) (Nat.le_refl _) (by simp) ?_; (case hd => rfl); (case hg => rfl); (case hr => first | (go_simp; done) | (go_simp; rfl)); (case hp => exact (Reps.none _ _)); intro v810 w5 ho6 hb hg_ hnew_; clear hg_ hnew_; (first | rw [← Ny809.out] at ho6 | (simp only [Int.reduceToNat] at ho6; rw [← Ny809.out] at ho6)); have n_ := b_ (Kd.R_lower ho6 (below_size (hB_))) <| c_ (below_step (hB_) hb); clear HB; obtain ⟨HO811, HB⟩ := n_; clear hb ho6)))
 (try simp only [Act.put, List.setIfInBounds_toArray, List.set_cons_zero, List.set_cons_succ])
 go_cut [31] (fun v31 wc => ∃ (kq : Nat) (x31_3 : Bool), v31 = .bool x31_3 ∧ Aside0 (spec_Unpack.j0 kq a0 a1 a2 y809 x31_3 = some (r1, r2)) ∧ Aside0 (kq ≤ k) ∧ Aside0 (Kd.R (Kd.int .i64) 3 wc w.heap.size (fun _ => True) v810 y809) ∧ Aside0 (Below w.heap.size w wc))
 case first =>
  have H := HC4.out
  clear HC4
  obtain ⟨t812, A7, H⟩ := bN_ H
  by_cases c8 : t812 = true
  ·subst c8
   replace H := iT_ H
   obtain ⟨t813, A9, H⟩ := bN_ H
   by_cases c10 : t813 = true
   ·subst c10
    replace H := iT_ H
    have H' := Aside0.mk H
    clear H
    go_wp2_with (first | (go_at_call 70; (with_reducible refine (spec_l01In.calls a1 1 12 true _ A7.out).mono ?_); rintro e w' ⟨rfl, ⟨nd, rfl⟩⟩; (try first | exact ⟨rfl, _, World.drewN_drewN _ _ _⟩ | exact ⟨rfl, _, Eq.trans (World.drewN_drewN _ _ _) (congrArg (World.drewN _) (Nat.add_assoc _ _ _))⟩)) | (go_at_call 70; (with_reducible refine (spec_l01In.calls a2 0 1000 true _ A9.out).mono ?_); rintro e w' ⟨rfl, ⟨nd, rfl⟩⟩; (try first | exact ⟨rfl, _, World.drewN_drewN _ _ _⟩ | exact ⟨rfl, _, Eq.trans (World.drewN_drewN _ _ _) (congrArg (World.drewN _) (Nat.add_assoc _ _ _))⟩)))
    repeat (go_quiet (first | (go_at_call 70; (with_reducible refine (spec_l01In.calls a1 1 12 true _ A7.out).mono ?_); rintro e w' ⟨rfl, ⟨nd, rfl⟩⟩; (try first | exact ⟨rfl, _, World.drewN_drewN _ _ _⟩ | exact ⟨rfl, _, Eq.trans (World.drewN_drewN _ _ _) (congrArg (World.drewN _) (Nat.add_assoc _ _ _))⟩)) | (go_at_call 70; (with_reducible refine (spec_l01In.calls a2 0 1000 true _ A9.out).mono ?_); rintro e w' ⟨rfl, ⟨nd, rfl⟩⟩; (try first | exact ⟨rfl, _, World.drewN_drewN _ _ _⟩ | exact ⟨rfl, _, Eq.trans (World.drewN_drewN _ _ _) (congrArg (World.drewN _) (Nat.add_assoc _ _ _))⟩))); try go_wp2)
    go_meet
    case rel => exact ⟨_, (((a0.size : Int) != (wrap64 (Int.tdiv (wrap64 ((wrap64 (a2 * a1)) + 7)) 8)))), f0_, H', ⟨by first | omega | exact Nat.le_refl _⟩, ⟨rR_ HO811.out⟩, ⟨hB_⟩⟩
   ·replace c10 := Bool.eq_false_iff.mpr c10
    subst c10
    replace H := iF_ H
    have H' := Aside0.mk H
    clear H
    go_wp2_with (first | (go_at_call 70; (with_reducible refine (spec_l01In.calls a1 1 12 true _ A7.out).mono ?_); rintro e w' ⟨rfl, ⟨nd, rfl⟩⟩; (try first | exact ⟨rfl, _, World.drewN_drewN _ _ _⟩ | exact ⟨rfl, _, Eq.trans (World.drewN_drewN _ _ _) (congrArg (World.drewN _) (Nat.add_assoc _ _ _))⟩)) | (go_at_call 70; (with_reducible refine (spec_l01In.calls a2 0 1000 false _ A9.out).mono ?_); rintro e w' ⟨rfl, ⟨nd, rfl⟩⟩; (try first | exact ⟨rfl, _, World.drewN_drewN _ _ _⟩ | exact ⟨rfl, _, Eq.trans (World.drewN_drewN _ _ _) (congrArg (World.drewN _) (Nat.add_assoc _ _ _))⟩)))
    repeat (go_quiet (first | (go_at_call 70; (with_reducible refine (spec_l01In.calls a1 1 12 true _ A7.out).mono ?_); rintro e w' ⟨rfl, ⟨nd, rfl⟩⟩; (try first | exact ⟨rfl, _, World.drewN_drewN _ _ _⟩ | exact ⟨rfl, _, Eq.trans (World.drewN_drewN _ _ _) (congrArg (World.drewN _) (Nat.add_assoc _ _ _))⟩)) | (go_at_call 70; (with_reducible refine (spec_l01In.calls a2 0 1000 false _ A9.out).mono ?_); rintro e w' ⟨rfl, ⟨nd, rfl⟩⟩; (try first | exact ⟨rfl, _, World.drewN_drewN _ _ _⟩ | exact ⟨rfl, _, Eq.trans (World.drewN_drewN _ _ _) (congrArg (World.drewN _) (Nat.add_assoc _ _ _))⟩))); try go_wp2)
    go_meet
    case rel => exact ⟨_, (true), f0_, H', ⟨by first | omega | exact Nat.le_refl _⟩, ⟨rR_ HO811.out⟩, ⟨hB_⟩⟩
  ·replace c8 := Bool.eq_false_iff.mpr c8
   subst c8
   replace H := iF_ H
   have H' := Aside0.mk H
   clear H
   go_wp2_with (first | (go_at_call 70; (with_reducible refine (spec_l01In.calls a1 1 12 false _ A7.out).mono ?_); rintro e w' ⟨rfl, ⟨nd, rfl⟩⟩; (try first | exact ⟨rfl, _, World.drewN_drewN _ _ _⟩ | exact ⟨rfl, _, Eq.trans (World.drewN_drewN _ _ _) (congrArg (World.drewN _) (Nat.add_assoc _ _ _))⟩)))
   repeat (go_quiet (first | (go_at_call 70; (with_reducible refine (spec_l01In.calls a1 1 12 false _ A7.out).mono ?_); rintro e w' ⟨rfl, ⟨nd, rfl⟩⟩; (try first | exact ⟨rfl, _, World.drewN_drewN _ _ _⟩ | exact ⟨rfl, _, Eq.trans (World.drewN_drewN _ _ _) (congrArg (World.drewN _) (Nat.add_assoc _ _ _))⟩))); try go_wp2)
   go_meet
   case rel => exact ⟨_, (true), f0_, H', ⟨by first | omega | exact Nat.le_refl _⟩, ⟨rR_ HO811.out⟩, ⟨hB_⟩⟩
 case rest =>
  clear HC4
  obtain ⟨kq, x31_3, rfl, HA, HJ3, HO_8, HB⟩ := hcut
  cases kq with
  | zero => exact absurd HA.out (by simp [spec_Unpack.j0])
  | succ kj3 =>
   have H := HA.out
   clear HA
   simp only [spec_Unpack.j0] at H
   by_cases c11 : x31_3 = true
   ·subst c11
    replace H := iT_ H
    simp only [Option.some.injEq, Prod.mk.injEq] at H
    obtain ⟨rfl, rfl⟩ := H
    go_wp2
    repeat (go_quiet (fail); try go_wp2)
    go_ret2
    exact ⟨_, f1_, rR_ HO_8.out, hB_⟩
   ·replace c11 := Bool.eq_false_iff.mpr c11
    subst c11
    replace H := iF_ H
    have H' := Aside0.mk H
    clear H
    go_wp2
    repeat (go_quiet (fail); try go_wp2)
    go_loopg [8, 9, 10, 11, 12] kj3 (fun kq v8 v9 v10 v11 v12 w' => ∃ (x8_2 : List Int) (x9_2 : Int) (x10_2 : Int) (x11_2 : Int) (x12_2 : Int), v9 = .int .i64 x9_2 ∧ v10 = .int .i64 x10_2 ∧ v11 = .int .i64 x11_2 ∧ v12 = .int .i64 x12_2 ∧ Aside0 (spec_Unpack.l0 kq a0 a1 a2 x8_2 x9_2 x10_2 x11_2 x12_2 = some (r1, r2)) ∧ Aside0 (kq ≤ kj3) ∧ Aside0 (Kd.R (Kd.int .i64) 3 w' w.heap.size (fun _ => True) v8 x8_2) ∧ Aside0 (Below w.heap.size w w'))
    case atStart => exact ⟨(y809), (0), (0), (0), (0), f0_, f0_, f0_, f0_, H', ⟨Nat.le_refl _⟩, ⟨rR_ HO_8.out⟩, ⟨hB_⟩⟩
    case round =>
     clear H'
     obtain ⟨x8_2, x9_2, x10_2, x11_2, x12_2, rfl, rfl, rfl, rfl, HA, HK2, HO_8, HB⟩ := hrel
     cases gk with
     | zero => exact absurd HA.out (by simp [spec_Unpack.l0])
     | succ k2 =>
      have H := HA.out
      clear HA
      simp only [spec_Unpack.l0] at H
      by_cases c12 : x12_2 < a2
      rotate_left
      ·rw [if_neg c12] at H
       have c12b0 := decide_eq_false c12
       clear c12
       by_cases c24 : x9_2 = 0
       ·rw [if_pos c24] at H
        have c24b0 : (x9_2 == 0) = true := beq_iff_eq.mpr c24
        have c24b1 : (x9_2 != 0) = false := bne_eq_false_iff_eq.mpr c24
        clear c24
        simp only [Option.some.injEq, Prod.mk.injEq] at H
        obtain ⟨rfl, rfl⟩ := H
        go_wp2
        repeat (go_quiet (fail); try go_wp2)
        go_ret2
        exact ⟨_, f1_, rR_ HO_8.out, hB_⟩
       rw [if_neg c24] at H
       have c24b0 : (x9_2 == 0) = false := beq_eq_false_iff_ne.mpr c24
       have c24b1 : (x9_2 != 0) = true := bne_iff_ne.mpr c24
       obtain ⟨y814, hy814⟩ : ∃ y_ : List Int, y_ = (([] : List Int)) := ⟨_, rfl⟩
       first | replace H := yb_ hy814 H | rw [← hy814] at H
       have Ny814 := Aside0.mk hy814
       clear hy814
       simp only [Option.some.injEq, Prod.mk.injEq] at H
       obtain ⟨rfl, rfl⟩ := H
       go_wp2_with (first | ((with_reducible refine gate_dst (N := 70) rfl ?_); (try (refine gate_guard (by rfl) ?_; dsimp only)); refine Kd.R_lit (Kd.int .i64) _ 3 ?hg (N := 70) ?hd (xs := ([] : List Int)) (inner := []) (ok := fun _ => True) (okp := fun _ => True) ?hr ?hp (fun _ hk => hk) trivial (Below.refl _ _) (Nat.le_refl _) (by simp) ?_; (case hd => rfl); (case hg => rfl); (case hr => first | (go_simp; done) | (go_simp; rfl)); (case hp => exact (Reps.none _ _)); intro v815 w25 ho26 hb hg_ hnew_; clear hg_ hnew_; (first | rw [← Ny814.out] at ho26 | (simp only [Int.reduceToNat] at ho26; rw [← Ny814.out] at ho26)); have n_ := b_ (Kd.R_elder' (rR_ HO_8.out) (Kd.R_base ho26) hb) <| b_ (Kd.R_lower (Kd.R_new' ho26 (Kd.R_lt (rR_ HO_8.out))) (below_size (hB_))) <| c_ (below_step (hB_) hb); clear HO_8 HB; obtain ⟨HO_8, HO816, HB⟩ := n_; clear hb ho26))
       repeat (go_quiet (first | ((with_reducible refine gate_dst (N := 70) rfl ?_); (try (refine gate_guard (by rfl) ?_; dsimp only)); refine Kd.R_lit (Kd.int .i64) _ 3 ?hg (N := 70) ?hd (xs := ([] : List Int)) (inner := []) (ok := fun _ => True) (okp := fun _ => True) ?hr ?hp (fun _ hk => hk) trivial (Below.refl _ _) (Nat.le_refl _) (by simp) ?_; (case hd => rfl); (case hg => rfl); (case hr => first | (go_simp; done) | (go_simp; rfl)); (case hp => exact (Reps.none _ _)); intro v815 w25 ho26 hb hg_ hnew_; clear hg_ hnew_; (first | rw [← Ny814.out] at ho26 | (simp only [Int.reduceToNat] at ho26; rw [← Ny814.out] at ho26)); have n_ := b_ (Kd.R_elder' (rR_ HO_8.out) (Kd.R_base ho26) hb) <| b_ (Kd.R_lower (Kd.R_new' ho26 (Kd.R_lt (rR_ HO_8.out))) (below_size (hB_))) <| c_ (below_step (hB_) hb); clear HO_8 HB; obtain ⟨HO_8, HO816, HB⟩ := n_; clear hb ho26)); try go_wp2)
       go_ret2
       exact ⟨_, f1_, by refine kR_ ?_; exact Kd.R_mono HO816.out (fun _ hk => trivial), hB_⟩
      rw [if_pos c12] at H
      have c12b0 := decide_eq_true c12
      clear c12
      have H' := Aside0.mk H
      clear H
      go_wp2
      repeat (go_quiet (fail); try go_wp2)
      go_loopg [9, 10, 11] k2 (fun kq v9 v10 v11 w' => ∃ (x9_3 : Int) (x10_3 : Int) (x11_3 : Int), v9 = .int .i64 x9_3 ∧ v10 = .int .i64 x10_3 ∧ v11 = .int .i64 x11_3 ∧ Aside0 (spec_Unpack.l1 kq a0 a1 a2 x8_2 x9_3 x10_3 x11_3 x12_2 = some (r1, r2)) ∧ Aside0 (kq ≤ k2) ∧ Aside0 (Kd.R (Kd.int .i64) 3 w' w.heap.size (fun _ => True) u8 x8_2) ∧ Aside0 (Below w.heap.size w w'))
      case atStart => exact ⟨(x9_2), (x10_2), (x11_2), f0_, f0_, f0_, H', ⟨Nat.le_refl _⟩, ⟨rR_ HO_8.out⟩, ⟨hB_⟩⟩
      case round =>
       clear H'
       obtain ⟨x9_3, x10_3, x11_3, rfl, rfl, rfl, HA, HK3, HO_8, HB⟩ := hrel
       cases gk with
       | zero => exact absurd HA.out (by simp [spec_Unpack.l1])
       | succ k3 =>
        have H := HA.out
        clear HA
        simp only [spec_Unpack.l1] at H
        by_cases c13 : x10_3 < a1
        ·rw [if_pos c13] at H
         have c13b0 := decide_eq_true c13
         clear c13
         obtain ⟨c14b0, H⟩ := iD_ H
         obtain ⟨c15b0, H⟩ := iD_ H
         obtain ⟨t817, A17, H⟩ := bN_ H
         have H' := Aside0.mk H
         clear H
         have p16 := eq_true (oD_ : 0 ≤ (x11_3 : Int))
         have q16 := eq_true (oD_ : x11_3 < (a0.size : Int))
         have hx16 := bt_at a0 x11_3
         go_wp2_with (first | (go_at_call 115; (with_reducible refine (spec_l11Two.calls k3 x10_3 t817 _ A17.out).mono ?_); rintro e w' ⟨rfl, ⟨nd, rfl⟩⟩; (try first | exact ⟨rfl, _, World.drewN_drewN _ _ _⟩ | exact ⟨rfl, _, Eq.trans (World.drewN_drewN _ _ _) (congrArg (World.drewN _) (Nat.add_assoc _ _ _))⟩)))
         repeat (go_quiet (first | (go_at_call 115; (with_reducible refine (spec_l11Two.calls k3 x10_3 t817 _ A17.out).mono ?_); rintro e w' ⟨rfl, ⟨nd, rfl⟩⟩; (try first | exact ⟨rfl, _, World.drewN_drewN _ _ _⟩ | exact ⟨rfl, _, Eq.trans (World.drewN_drewN _ _ _) (congrArg (World.drewN _) (Nat.add_assoc _ _ _))⟩))); try go_wp2)
         go_roundg k3
         case measure => have := HJ3.out; have := HK2.out; have := HK3.out; omega
         case rel => exact ⟨(wrap64 (x9_3 + (wrap64 ((wrap64 (bt a0 x11_3)) * t817)))), (wrap64 (x10_3 + 8)), (wrap64 (x11_3 + 1)), f0_, f0_, f0_, H', ⟨by have := HJ3.out; have := HK2.out; have := HK3.out; omega⟩, ⟨rR_ HO_8.out⟩, ⟨hB_⟩⟩
        rw [if_neg c13] at H
        have c13b0 := decide_eq_false c13
        clear c13
        obtain ⟨t818, A18, H⟩ := bN_ H
        by_cases c19 : t818 = 0
        ·rw [if_pos c19] at H
         exact absurd H (by simp)
        rw [if_neg c19] at H
        have c19b0 : (t818 == 0) = false := beq_eq_false_iff_ne.mpr c19
        have c19b1 : (t818 != 0) = true := bne_iff_ne.mpr c19
        obtain ⟨c20, H⟩ := iN_ H
        have LMc20 := Aside0.mk c20
        clear c20
        obtain ⟨y819, hy819⟩ : ∃ y_ : List Int, y_ = (x8_2 ++ [Int.tmod x9_3 t818]) := ⟨_, rfl⟩
        first | replace H := yb_ hy819 H | rw [← hy819] at H
        have Ny819 := Aside0.mk hy819
        clear hy819
        obtain ⟨t822, A21, H⟩ := bN_ H
        have QA21 := Aside0.mk (Option.some.inj (A18.out.symm.trans A21.out))
        by_cases c22 : t822 = 0
        ·rw [if_pos c22] at H
         exact absurd H (by simp)
        rw [if_neg c22] at H
        have c22b0 : (t822 == 0) = false := beq_eq_false_iff_ne.mpr c22
        have c22b1 : (t822 != 0) = true := bne_iff_ne.mpr c22
        have H' := Aside0.mk H
        clear H
        go_wp2_with (first | (go_at_call 115; (with_reducible refine (spec_l11Two.calls k3 a1 t818 _ A18.out).mono ?_); rintro e w' ⟨rfl, ⟨nd, rfl⟩⟩; (try first | exact ⟨rfl, _, World.drewN_drewN _ _ _⟩ | exact ⟨rfl, _, Eq.trans (World.drewN_drewN _ _ _) (congrArg (World.drewN _) (Nat.add_assoc _ _ _))⟩)) | ((with_reducible refine gate_builtin (b := .append) (xs := #[.tmp 54, .tmp 59]) rfl ?_); (try (refine gate_guard (by rfl) ?_; dsimp only)); at_builtin; refine Kd.R_append (Kd.int .i64) (w0 := w) w.heap.size rfl (.tmp 54) (.tmp 59) 22 3 (.int .i64 0) 8 rfl Try.underlying22 info3 rfl (by decide) (by omega) u8 x8_2 (Int.tmod x9_3 t818) [.int .i64 (Int.tmod x9_3 t818)] (fun _ => True) (fun _ => False) rfl rfl ?aP (fun _ hk => hk.elim) ?aF ?aO ?aB ?aS ?aL ?_; (case aP => exact rfl); (case aB => exact (hB_)); (case aF => exact (fun _ _ => trivial)); (case aO => exact (rR_ HO_8.out)); (case aS => exact (below_size (hB_))); (case aL => have := LMc20.out; omega); intro v820 w23 ho hb hg hat; rw [← Ny819.out] at ho; have n_ := b_ (hb) <| c_ (ho); clear HO_8 HB; obtain ⟨HB, HO821⟩ := n_; clear ho hb hg hat) | (go_at_call 115; (with_reducible refine (spec_l11Two.calls k3 a1 t822 _ A21.out).mono ?_); rintro e w' ⟨rfl, ⟨nd, rfl⟩⟩; (try first | exact ⟨rfl, _, World.drewN_drewN _ _ _⟩ | exact ⟨rfl, _, Eq.trans (World.drewN_drewN _ _ _) (congrArg (World.drewN _) (Nat.add_assoc _ _ _))⟩)))
        repeat (go_quiet (first | (go_at_call 115; (with_reducible refine (spec_l11Two.calls k3 a1 t818 _ A18.out).mono ?_); rintro e w' ⟨rfl, ⟨nd, rfl⟩⟩; (try first | exact ⟨rfl, _, World.drewN_drewN _ _ _⟩ | exact ⟨rfl, _, Eq.trans (World.drewN_drewN _ _ _) (congrArg (World.drewN _) (Nat.add_assoc _ _ _))⟩)) | ((with_reducible refine gate_builtin (b := .append) (xs := #[.tmp 54, .tmp 59]) rfl ?_); (try (refine gate_guard (by rfl) ?_; dsimp only)); at_builtin; refine Kd.R_append (Kd.int .i64) (w0 := w) w.heap.size rfl (.tmp 54) (.tmp 59) 22 3 (.int .i64 0) 8 rfl Try.underlying22 info3 rfl (by decide) (by omega) u8 x8_2 (Int.tmod x9_3 t818) [.int .i64 (Int.tmod x9_3 t818)] (fun _ => True) (fun _ => False) rfl rfl ?aP (fun _ hk => hk.elim) ?aF ?aO ?aB ?aS ?aL ?_; (case aP => exact rfl); (case aB => exact (hB_)); (case aF => exact (fun _ _ => trivial)); (case aO => exact (rR_ HO_8.out)); (case aS => exact (below_size (hB_))); (case aL => have := LMc20.out; omega); intro v820 w23 ho hb hg hat; rw [← Ny819.out] at ho; have n_ := b_ (hb) <| c_ (ho); clear HO_8 HB; obtain ⟨HB, HO821⟩ := n_; clear ho hb hg hat) | (go_at_call 115; (with_reducible refine (spec_l11Two.calls k3 a1 t822 _ A21.out).mono ?_); rintro e w' ⟨rfl, ⟨nd, rfl⟩⟩; (try first | exact ⟨rfl, _, World.drewN_drewN _ _ _⟩ | exact ⟨rfl, _, Eq.trans (World.drewN_drewN _ _ _) (congrArg (World.drewN _) (Nat.add_assoc _ _ _))⟩))); try go_wp2)
        go_roundg k3
        case measure => have := HJ3.out; have := HK2.out; have := HK3.out; omega
        case rel => exact ⟨(y819), (wrap64 (Int.tdiv x9_3 t822)), (wrap64 (x10_3 - a1)), (x11_3), (wrap64 (x12_2 + 1)), (by first | rfl | (simp only [QA21.out]; done) | (simp; done) | (simp [*]; done)), (by first | rfl | (simp only [QA21.out]; done) | (simp; done) | (simp [*]; done)), (by first | rfl | (simp only [QA21.out]; done) | (simp; done) | (simp [*]; done)), (by first | rfl | (simp only [QA21.out]; done) | (simp; done) | (simp [*]; done)), H', ⟨by have := HJ3.out; have := HK2.out; have := HK3.out; omega⟩, ⟨rR_ HO821.out⟩, ⟨hB_⟩⟩

/-! ### spec_PolyFrom: function 85 -/
def spec_PolyFrom.f (k : Nat) (a0 : ByteArray) : Option (List Int × Bool) := (spec_Unpack.f k a0 12 256).bind fun bt823 => (if bt823.2 = true then ((spec_PolyOk.f k bt823.1).bind fun t827 => (if t827 = true then (some (bt823.1, true)) else (some ((([] : List Int)), false)))) else (some ((([] : List Int)), false)))
theorem spec_PolyFrom.mono : ∀ a0 k, LeO (spec_PolyFrom.f k a0) (spec_PolyFrom.f (k + 1) a0) := by
 intro a0 k
 unfold spec_PolyFrom.f
 exact o2_ spec_PolyOk.mono spec_Unpack.mono
theorem spec_PolyFrom.calls (k : Nat) (a0 : ByteArray) (r1 : List Int) (r2 : Bool) (w : World) (h : spec_PolyFrom.f k a0 = some (r1, r2)) :
  Calls Try.prog 85 #[.string a0] w fun e w' => ∃ v0_ : Value, e = .returned (.tuple #[v0_, .bool r2]) ∧ Kd.R (Kd.int .i64) 3 w' w.heap.size (fun _ => True) v0_ r1 ∧ Below w.heap.size w w' := by
 have HB := Aside0.mk (Below.refl w.heap.size w)
 delta spec_PolyFrom.f at h
 have H := h
 clear h
 obtain ⟨⟨t823, t824⟩, A2, H⟩ := bN_ H
 by_cases c3 : t824 = true
 ·subst c3
  replace H := iT_ H
  obtain ⟨t827, A4, H⟩ := bN_ H
  by_cases c5 : t827 = true
  ·subst c5
   replace H := iT_ H
   simp only [Option.some.injEq, Prod.mk.injEq] at H
   obtain ⟨rfl, rfl⟩ := H
   go_enter Try.func85, Try.ntmps85
   go_wp2_with (first | ((with_reducible refine gate_callee (f := 114) rfl ?_); refine goesL_ (some 8) rfl rfl Try.func114 (by kernel_rfl) rfl #[.string a0, .int .i64 12, .int .i64 256] rfl aM_ ?_; (with_reducible refine (spec_Unpack.calls k a0 12 256 t823 true _ A2.out).mono ?_); rintro e w6 ⟨v825, rfl, ho0, hb⟩; refine ⟨_, rfl, ?_⟩; have n_ := b_ (Kd.R_lower ho0 (below_size (hB_))) <| c_ (below_step (hB_) hb); clear HB; obtain ⟨HO826, HB⟩ := n_; obtain ⟨Ao7, co7, eo7⟩ := Kd.R_slice HO826.out; subst eo7) | (go_at_call 86; (with_reducible refine (spec_PolyOk.calls k _ _ t823 true _ ?side1 ?side2 A4.out).mono ?_); (case side1 => exact cR_ (Kd.R_reads' HO826.out).2.2); (case side2 => exact (Kd.R_reads' HO826.out).2.1); rintro e w' ⟨rfl, ⟨nd, rfl⟩⟩))
   go_ret2
   exact ⟨_, f1_, rR_ HO826.out, hB_⟩
  ·replace c5 := Bool.eq_false_iff.mpr c5
   subst c5
   replace H := iF_ H
   obtain ⟨y828, hy828⟩ : ∃ y_ : List Int, y_ = (([] : List Int)) := ⟨_, rfl⟩
   first | replace H := yb_ hy828 H | rw [← hy828] at H
   have Ny828 := Aside0.mk hy828
   clear hy828
   simp only [Option.some.injEq, Prod.mk.injEq] at H
   obtain ⟨rfl, rfl⟩ := H
   go_enter Try.func85, Try.ntmps85
   go_wp2_with (first | ((with_reducible refine gate_callee (f := 114) rfl ?_); refine goesL_ (some 8) rfl rfl Try.func114 (by kernel_rfl) rfl #[.string a0, .int .i64 12, .int .i64 256] rfl aM_ ?_; (with_reducible refine (spec_Unpack.calls k a0 12 256 t823 true _ A2.out).mono ?_); rintro e w8 ⟨v825, rfl, ho0, hb⟩; refine ⟨_, rfl, ?_⟩; have n_ := b_ (Kd.R_lower ho0 (below_size (hB_))) <| c_ (below_step (hB_) hb); clear HB; obtain ⟨HO826, HB⟩ := n_; obtain ⟨Ao9, co9, eo9⟩ := Kd.R_slice HO826.out; subst eo9) | (go_at_call 86; (with_reducible refine (spec_PolyOk.calls k _ _ t823 false _ ?side1 ?side2 A4.out).mono ?_); (case side1 => exact cR_ (Kd.R_reads' HO826.out).2.2); (case side2 => exact (Kd.R_reads' HO826.out).2.1); rintro e w' ⟨rfl, ⟨nd, rfl⟩⟩) | ((with_reducible refine gate_dst (N := 18) rfl ?_); refine Kd.R_lit (Kd.int .i64) _ 3 ?hg (N := 18) ?hd (xs := ([] : List Int)) (inner := []) (ok := fun _ => True) (okp := fun _ => True) ?hr ?hp (fun _ hk => hk) trivial (Below.refl _ _) (Nat.le_refl _) (by simp) ?_; (case hd => rfl); (case hg => rfl); (case hr => first | (go_simp; done) | (go_simp; rfl)); (case hp => exact (Reps.none _ _)); intro v829 w10 ho11 hb hg_ hnew_; clear hg_ hnew_; (first | rw [← Ny828.out] at ho11 | (simp only [Int.reduceToNat] at ho11; rw [← Ny828.out] at ho11)); have n_ := b_ (Kd.R_elder' (rR_ HO826.out) (Kd.R_base ho11) hb) <| b_ (Kd.R_lower (Kd.R_new' ho11 (Kd.R_lt (rR_ HO826.out))) (below_size (hB_))) <| c_ (below_step (hB_) hb); clear HO826 HB; obtain ⟨HO826, HO830, HB⟩ := n_; clear hb ho11))
   go_ret2
   exact ⟨_, f1_, by refine kR_ ?_; exact Kd.R_mono HO830.out (fun _ hk => trivial), hB_⟩
 ·replace c3 := Bool.eq_false_iff.mpr c3
  subst c3
  replace H := iF_ H
  obtain ⟨y831, hy831⟩ : ∃ y_ : List Int, y_ = (([] : List Int)) := ⟨_, rfl⟩
  first | replace H := yb_ hy831 H | rw [← hy831] at H
  have Ny831 := Aside0.mk hy831
  clear hy831
  simp only [Option.some.injEq, Prod.mk.injEq] at H
  obtain ⟨rfl, rfl⟩ := H
  go_enter Try.func85, Try.ntmps85
  go_wp2_with (first | ((with_reducible refine gate_callee (f := 114) rfl ?_); refine goesL_ (some 8) rfl rfl Try.func114 (by kernel_rfl) rfl #[.string a0, .int .i64 12, .int .i64 256] rfl aM_ ?_; (with_reducible refine (spec_Unpack.calls k a0 12 256 t823 false _ A2.out).mono ?_); rintro e w12 ⟨v825, rfl, ho0, hb⟩; refine ⟨_, rfl, ?_⟩; have n_ := b_ (Kd.R_lower ho0 (below_size (hB_))) <| c_ (below_step (hB_) hb); clear HB; obtain ⟨HO826, HB⟩ := n_; (try clear ho0)) | ((with_reducible refine gate_dst (N := 18) rfl ?_); refine Kd.R_lit (Kd.int .i64) _ 3 ?hg (N := 18) ?hd (xs := ([] : List Int)) (inner := []) (ok := fun _ => True) (okp := fun _ => True) ?hr ?hp (fun _ hk => hk) trivial (Below.refl _ _) (Nat.le_refl _) (by simp) ?_; (case hd => rfl); (case hg => rfl); (case hr => first | (go_simp; done) | (go_simp; rfl)); (case hp => exact (Reps.none _ _)); intro v832 w13 ho14 hb hg_ hnew_; clear hg_ hnew_; (first | rw [← Ny831.out] at ho14 | (simp only [Int.reduceToNat] at ho14; rw [← Ny831.out] at ho14)); have n_ := b_ (Kd.R_elder' (rR_ HO826.out) (Kd.R_base ho14) hb) <| b_ (Kd.R_lower (Kd.R_new' ho14 (Kd.R_lt (rR_ HO826.out))) (below_size (hB_))) <| c_ (below_step (hB_) hb); clear HO826 HB; obtain ⟨HO826, HO833, HB⟩ := n_; clear hb ho14))
  go_ret2
  exact ⟨_, f1_, by refine kR_ ?_; exact Kd.R_mono HO833.out (fun _ hk => trivial), hB_⟩

/-! ### spec_l13Polys: function 51 -/
def spec_l13Polys.l0 : Nat → ByteArray → List (List Int) → Int → Option ((List (List Int)) × Bool)
 | 0, _, _, _ => none
 | k + 1, x0, x4, x5 => if x5 < 2 then (if 0 ≤ (wrap64 (x5 * 384)) then (if (wrap64 (x5 * 384)) ≤ (wrap64 ((wrap64 (x5 + 1)) * 384)) then (if (wrap64 ((wrap64 (x5 + 1)) * 384)) ≤ (x0.size : Int) then ((spec_PolyFrom.f k (x0.extract ((wrap64 (x5 * 384)) : Int).toNat ((wrap64 ((wrap64 (x5 + 1)) * 384)) : Int).toNat)).bind fun bt837 => (if bt837.2 = true then (if x4.length < 5864062014805 then (spec_l13Polys.l0 k x0 (x4 ++ [bt837.1]) (wrap64 (x5 + 1))) else (none)) else (some ((([] : List (List Int))), false)))) else (none)) else (none)) else (none)) else (some (x4, true))
def spec_l13Polys.f (k : Nat) (a0 : ByteArray) : Option ((List (List Int)) × Bool) := spec_l13Polys.l0 k a0 (([] : List (List Int))) 0
theorem spec_l13Polys.mono_l : ∀ k, (∀ y0 y1 y2, LeO (spec_l13Polys.l0 k y0 y1 y2) (spec_l13Polys.l0 (k + 1) y0 y1 y2))
 | 0 => fun _ _ _ r h => by simp [spec_l13Polys.l0] at h
 | k + 1 => by
  have ih0 := spec_l13Polys.mono_l k
  intros; unfold spec_l13Polys.l0; exact o2_ ih0 spec_PolyFrom.mono
theorem spec_l13Polys.mono : ∀ a0 k, LeO (spec_l13Polys.f k a0) (spec_l13Polys.f (k + 1) a0) := by
 intro a0 k
 have ih0 := spec_l13Polys.mono_l k
 unfold spec_l13Polys.f
 exact o2_ ih0 spec_PolyFrom.mono
theorem spec_l13Polys.calls (k : Nat) (a0 : ByteArray) (r1 : List (List Int)) (r2 : Bool) (w : World) (h : spec_l13Polys.f k a0 = some (r1, r2)) :
  Calls Try.prog 51 #[.string a0] w fun e w' => ∃ v0_ : Value, e = .returned (.tuple #[v0_, .bool r2]) ∧ Kd.S (Kd.slice 3 (Kd.int .i64)) 22 w' w.heap.size (fun _ => True) v0_ r1 ∧ Below w.heap.size w w' := by
 have HB := Aside0.mk (Below.refl w.heap.size w)
 delta spec_l13Polys.f at h
 have H := h
 clear h
 obtain ⟨y834, hy834⟩ : ∃ y_ : List (List Int), y_ = (([] : List (List Int))) := ⟨_, rfl⟩
 first | replace H := yb_ hy834 H | rw [← hy834] at H
 have Ny834 := Aside0.mk hy834
 clear hy834
 have H' := Aside0.mk H
 clear H
 go_enter Try.func51, Try.ntmps51
 go_wp2_with (first | ((with_reducible refine gate_dst (N := 8) rfl ?_); refine Kd.S_lit (Kd.slice 3 (Kd.int .i64)) _ 22 ?hg (N := 8) ?hd (xs := ([] : List (List Int))) (inner := []) (ok := fun _ => True) (okp := fun _ => True) ?hr ?hp (fun _ hk => hk) trivial (Below.refl _ _) (Nat.le_refl _) (by simp) ?_; (case hd => rfl); (case hg => rfl); (case hr => first | (go_simp; done) | (go_simp; rfl)); (case hp => exact (Reps.none _ _)); intro v835 w2 ho3 hb hg_ hnew_; clear hg_ hnew_; (first | rw [← Ny834.out] at ho3 | (simp only [Int.reduceToNat] at ho3; rw [← Ny834.out] at ho3)); have n_ := b_ (Kd.S_lower ho3 (below_size (hB_))) <| c_ (below_step (hB_) hb); clear HB; obtain ⟨HO836, HB⟩ := n_; clear hb ho3))
 go_loopg [4, 5] k (fun kq v4 v5 w' => ∃ (x4_1 : List (List Int)) (x5_1 : Int), v5 = .int .i64 x5_1 ∧ Aside0 (spec_l13Polys.l0 kq a0 x4_1 x5_1 = some (r1, r2)) ∧ Aside0 (kq ≤ k) ∧ Aside0 (Kd.S (Kd.slice 3 (Kd.int .i64)) 22 w' w.heap.size (fun _ => True) v4 x4_1) ∧ Aside0 (Below w.heap.size w w'))
 case atStart => exact ⟨(y834), (0), f0_, H', ⟨Nat.le_refl _⟩, ⟨rS_ HO836.out⟩, ⟨hB_⟩⟩
 case round =>
  clear H'
  obtain ⟨x4_1, x5_1, rfl, HA, HK1, HO_4, HB⟩ := hrel
  cases gk with
  | zero => exact absurd HA.out (by simp [spec_l13Polys.l0])
  | succ k1 =>
   have H := HA.out
   clear HA
   simp only [spec_l13Polys.l0] at H
   by_cases c4 : x5_1 < 2
   rotate_left
   ·rw [if_neg c4] at H
    have c4b0 := decide_eq_false c4
    clear c4
    simp only [Option.some.injEq, Prod.mk.injEq] at H
    obtain ⟨rfl, rfl⟩ := H
    go_wp2
    go_ret2
    exact ⟨_, f1_, by refine kS_ ?_; exact HO_4.out, hB_⟩
   rw [if_pos c4] at H
   have c4b0 := decide_eq_true c4
   clear c4
   obtain ⟨ji5, hji5⟩ : ∃ j_ : Int, (wrap64 (x5_1 * 384)) = j_ := ⟨_, rfl⟩
   first | rw [hji5] at H | simp only [hji5] at H
   have hji5w : (IntKind.i64.wrap (x5_1 * 384)) = ji5 := (i64_w _).trans hji5
   obtain ⟨c6, H⟩ := iN_ H
   have c6b0 := eq_true c6
   have c6b1 := decide_eq_true c6
   clear c6
   obtain ⟨c7, H⟩ := iN_ H
   have c7b0 := eq_true c7
   have c7b1 := decide_eq_true c7
   obtain ⟨c8, H⟩ := iN_ H
   have c8b0 := eq_true c8
   have c8b1 := decide_eq_true c8
   obtain ⟨⟨t837, t838⟩, A9, H⟩ := bN_ H
   by_cases c10 : t838 = true
   ·subst c10
    replace H := iT_ H
    obtain ⟨c11, H⟩ := iN_ H
    have LMc11 := Aside0.mk c11
    clear c11
    obtain ⟨y841, hy841⟩ : ∃ y_ : List (List Int), y_ = (x4_1 ++ [t837]) := ⟨_, rfl⟩
    first | replace H := yb_ hy841 H | rw [← hy841] at H
    have Ny841 := Aside0.mk hy841
    clear hy841
    have H' := Aside0.mk H
    clear H
    go_wp2_with (first | ((with_reducible refine gate_callee (f := 85) rfl ?_); refine goesL_ (some 21) rfl rfl Try.func85 (by kernel_rfl) rfl #[.string (a0.extract ((ji5) : Int).toNat ((wrap64 ((wrap64 (x5_1 + 1)) * 384)) : Int).toNat)] rfl (by (try simp only [List.map_toArray, List.map_cons, List.map_nil]); first | done | (simp only [hji5]; rfl) | rfl | (simp only [List.length_drop, List.length_take]; rfl)) ?_; (with_reducible refine (spec_PolyFrom.calls k1 (a0.extract ((ji5) : Int).toNat ((wrap64 ((wrap64 (x5_1 + 1)) * 384)) : Int).toNat) t837 true _ A9.out).mono ?_); rintro e w12 ⟨v839, rfl, ho0, hb⟩; refine ⟨_, rfl, ?_⟩; have n_ := b_ (Kd.S_elder' (rS_ HO_4.out) (Kd.R_base ho0) hb) <| b_ (Kd.R_lower ho0 (below_size (hB_))) <| c_ (below_step (hB_) hb); clear HO_4 HB; obtain ⟨HO_4, HO840, HB⟩ := n_; obtain ⟨Ao14, co14, eo14⟩ := Kd.R_slice HO840.out; subst eo14) | ((with_reducible refine gate_builtin (b := .append) (xs := #[.tmp 27, .tmp 29]) rfl ?_); at_builtin; refine Kd.S_append (Kd.slice 3 (Kd.int .i64)) (w0 := w) w.heap.size rfl (.tmp 27) (.tmp 29) 70 22 (.slice none 0 0) 24 rfl Try.underlying70 info22 rfl (by decide) (by omega) u4 x4_1 t837 [.slice Ao14 t837.length co14] (fun _ => True) (fun k_ => some k_ = (.slice Ao14 t837.length co14 : Value).ownBlock) rfl rfl ?aP (fun k_ hk_ => ((Kd.R_mono (ok' := fun k_ => ((fun _ => True)) k_ ∧ some k_ ≠ (u4 : Value).ownBlock) (Kd.R_apart' (HO840.out) (Kd.S_typed HO_4.out) (by decide)) (fun k_ hk => ⟨trivial, hk.2⟩))).1 k_ hk_.symm) ?aF ?aO ?aB ?aS ?aL ?_; (case aP => exact Kd.M_row (Kd.R_mono (Kd.R_tight rfl (Kd.R_mono (ok' := fun k_ => ((fun _ => True)) k_ ∧ some k_ ≠ (u4 : Value).ownBlock) (Kd.R_apart' (HO840.out) (Kd.S_typed HO_4.out) (by decide)) (fun k_ hk => ⟨trivial, hk.2⟩))) (fun _ h_ => h_))); (case aB => exact (hB_)); (case aF => exact (fun _ _ => trivial)); (case aO => exact (by refine kS_ ?_; exact Kd.S_mono HO_4.out (fun k_ hk => ⟨trivial, fun e_ => hk.2 e_⟩))); (case aS => exact (below_size (hB_))); (case aL => have := LMc11.out; omega); intro v842 w13 ho hb hg hat; rw [← Ny841.out] at ho; have n_ := b_ (hb) <| c_ (ho); clear HO_4 HO840 HB; obtain ⟨HB, HO843⟩ := n_; clear ho hb hg hat))
    go_roundg k1
    case measure => have := HK1.out; omega
    case rel => exact ⟨(y841), (wrap64 (x5_1 + 1)), f0_, H', ⟨by have := HK1.out; omega⟩, ⟨rS_ HO843.out⟩, ⟨hB_⟩⟩
   ·replace c10 := Bool.eq_false_iff.mpr c10
    subst c10
    replace H := iF_ H
    obtain ⟨y844, hy844⟩ : ∃ y_ : List (List Int), y_ = (([] : List (List Int))) := ⟨_, rfl⟩
    first | replace H := yb_ hy844 H | rw [← hy844] at H
    have Ny844 := Aside0.mk hy844
    clear hy844
    simp only [Option.some.injEq, Prod.mk.injEq] at H
    obtain ⟨rfl, rfl⟩ := H
    go_wp2_with (first | ((with_reducible refine gate_callee (f := 85) rfl ?_); refine goesL_ (some 21) rfl rfl Try.func85 (by kernel_rfl) rfl #[.string (a0.extract ((ji5) : Int).toNat ((wrap64 ((wrap64 (x5_1 + 1)) * 384)) : Int).toNat)] rfl (by (try simp only [List.map_toArray, List.map_cons, List.map_nil]); first | done | (simp only [hji5]; rfl) | rfl | (simp only [List.length_drop, List.length_take]; rfl)) ?_; (with_reducible refine (spec_PolyFrom.calls k1 (a0.extract ((ji5) : Int).toNat ((wrap64 ((wrap64 (x5_1 + 1)) * 384)) : Int).toNat) t837 false _ A9.out).mono ?_); rintro e w15 ⟨v839, rfl, ho0, hb⟩; refine ⟨_, rfl, ?_⟩; have n_ := b_ (Kd.S_elder' (rS_ HO_4.out) (Kd.R_base ho0) hb) <| b_ (Kd.R_lower ho0 (below_size (hB_))) <| c_ (below_step (hB_) hb); clear HO_4 HB; obtain ⟨HO_4, HO840, HB⟩ := n_; (try clear ho0)) | ((with_reducible refine gate_dst (N := 26) rfl ?_); refine Kd.S_lit (Kd.slice 3 (Kd.int .i64)) _ 22 ?hg (N := 26) ?hd (xs := ([] : List (List Int))) (inner := []) (ok := fun _ => True) (okp := fun _ => True) ?hr ?hp (fun _ hk => hk) trivial (Below.refl _ _) (Nat.le_refl _) (by simp) ?_; (case hd => rfl); (case hg => rfl); (case hr => first | (go_simp; done) | (go_simp; rfl)); (case hp => exact (Reps.none _ _)); intro v845 w16 ho17 hb hg_ hnew_; clear hg_ hnew_; (first | rw [← Ny844.out] at ho17 | (simp only [Int.reduceToNat] at ho17; rw [← Ny844.out] at ho17)); have n_ := b_ (Kd.S_elder' (rS_ HO_4.out) (Kd.S_base ho17) hb) <| b_ (Kd.R_below (rR_ HO840.out) hb) <| b_ (Kd.S_lower (Kd.S_new' (Kd.S_new' ho17 (Kd.S_lt (rS_ HO_4.out))) (Kd.R_lt (rR_ HO840.out))) (below_size (hB_))) <| c_ (below_step (hB_) hb); clear HO_4 HO840 HB; obtain ⟨HO_4, HO840, HO846, HB⟩ := n_; clear hb ho17))
    go_ret2
    exact ⟨_, by first | rfl | (simp [errW_none, errW_some] <;> rfl) | (simp only [← hji5]; first | rfl | (simp [errW_none, errW_some] <;> rfl)) | (simp [*, errW_none, errW_some] <;> rfl), by refine kS_ ?_; exact Kd.S_mono HO846.out (fun _ hk => trivial), hB_⟩

/-! ### spec_PublicOk: function 50 -/
def spec_PublicOk.f (k : Nat) (a0 : ByteArray) : Option (Bool) := if (a0.size : Int) = 800 then ((spec_l13Polys.f k a0).bind fun bt847 => (some bt847.2)) else (some false)
theorem spec_PublicOk.mono : ∀ a0 k, LeO (spec_PublicOk.f k a0) (spec_PublicOk.f (k + 1) a0) := by
 intro a0 k
 unfold spec_PublicOk.f
 exact o1_ spec_l13Polys.mono
theorem spec_PublicOk.calls (k : Nat) (a0 : ByteArray) (r : Bool) (w : World) (h : spec_PublicOk.f k a0 = some r) :
  Calls Try.prog 50 #[.string a0] w fun e w' => e = .returned (.bool r) ∧ Below w.heap.size w w' := by
 have HB := Aside0.mk (Below.refl w.heap.size w)
 delta spec_PublicOk.f at h
 have H := h
 clear h
 by_cases c2 : (a0.size : Int) = 800
 ·rw [if_pos c2] at H
  have c2b0 : ((a0.size : Int) == 800) = true := beq_iff_eq.mpr c2
  have c2b1 : ((a0.size : Int) != 800) = false := bne_eq_false_iff_eq.mpr c2
  clear c2
  obtain ⟨⟨t847, t848⟩, A3, H⟩ := bN_ H
  obtain rfl := Option.some.inj H
  go_enter Try.func50, Try.ntmps50
  go_wp2_with (first | ((with_reducible refine gate_callee (f := 51) rfl ?_); refine goesL_ (some 10) rfl rfl Try.func51 (by kernel_rfl) rfl #[.string a0] rfl aM_ ?_; (with_reducible refine (spec_l13Polys.calls k a0 t847 t848 _ A3.out).mono ?_); rintro e w4 ⟨v849, rfl, ho0, hb⟩; refine ⟨_, rfl, ?_⟩; have n_ := b_ (Kd.S_lower ho0 (below_size (hB_))) <| c_ (below_step (hB_) hb); clear HB; obtain ⟨HO850, HB⟩ := n_; (try clear ho0)))
  go_ret
  exact ⟨f1_, hB_⟩
 rw [if_neg c2] at H
 have c2b0 : ((a0.size : Int) == 800) = false := beq_eq_false_iff_ne.mpr c2
 have c2b1 : ((a0.size : Int) != 800) = true := bne_iff_ne.mpr c2
 obtain rfl := Option.some.inj H
 go_enter Try.func50, Try.ntmps50
 go_wp2
 go_ret
 exact ⟨f1_, hB_⟩

/-! ### spec_PowQ: function 87 -/
mutual
def spec_PowQ.j0 : Nat → Int → Int → Option (Int)
 | 0, _, _ => none
 | k + 1, x0, x1 => spec_PowQ.l0 k x0 x1 1
def spec_PowQ.l0 : Nat → Int → Int → Int → Option (Int)
 | 0, _, _, _ => none
 | k + 1, x0, x1, x5 => if x1 > 0 then (if (Int.tmod x1 2) = 1 then (spec_PowQ.l0 k (Int.tmod (wrap64 (x0 * x0)) 3329) (wrap64 (Int.tdiv x1 2)) (Int.tmod (wrap64 (x5 * x0)) 3329)) else (spec_PowQ.l0 k (Int.tmod (wrap64 (x0 * x0)) 3329) (wrap64 (Int.tdiv x1 2)) x5)) else (some x5)
end
def spec_PowQ.f (k : Nat) (a0 : Int) (a1 : Int) : Option (Int) := (spec_l01In.f a1 0 1000000000).bind fun t884 => (if t884 = true then (if (Int.tmod a0 3329) < 0 then (spec_PowQ.j0 k (wrap64 ((Int.tmod a0 3329) + 3329)) a1) else (spec_PowQ.j0 k (Int.tmod a0 3329) a1)) else (some 0))
theorem spec_PowQ.mono_l : ∀ k, (∀ y0 y1, LeO (spec_PowQ.j0 k y0 y1) (spec_PowQ.j0 (k + 1) y0 y1)) ∧ (∀ y0 y1 y2, LeO (spec_PowQ.l0 k y0 y1 y2) (spec_PowQ.l0 (k + 1) y0 y1 y2))
 | 0 => ⟨fun _ _ r h => by simp [spec_PowQ.j0] at h, fun _ _ _ r h => by simp [spec_PowQ.l0] at h⟩
 | k + 1 => by
  obtain ⟨ih0, ih1⟩ := spec_PowQ.mono_l k
  refine ⟨?_, ?_⟩ <;> (intros; (first | unfold spec_PowQ.j0 | unfold spec_PowQ.l0); exact o2_ ih0 ih1)
theorem spec_PowQ.mono : ∀ a0 a1 k, LeO (spec_PowQ.f k a0 a1) (spec_PowQ.f (k + 1) a0 a1) := by
 intro a0 a1 k
 obtain ⟨ih0, ih1⟩ := spec_PowQ.mono_l k
 unfold spec_PowQ.f
 exact o2_ ih0 ih1
theorem spec_PowQ.calls (k : Nat) (a0 : Int) (a1 : Int) (r : Int) (w : World) (h : spec_PowQ.f k a0 a1 = some r) :
  Calls Try.prog 87 #[.int .i64 a0, .int .i64 a1] w fun e w' => e = .returned (.int .i64 r) ∧ Drawn0 w w' := by
 delta spec_PowQ.f at h
 have H := h
 clear h
 obtain ⟨t884, A3, H⟩ := bN_ H
 by_cases c4 : t884 = true
 ·subst c4
  replace H := iT_ H
  have HC5 := Aside0.mk H
  clear H
  go_enter Try.func87, Try.ntmps87
  go_upto_if 12 with (first | ((with_reducible refine gate_callee (f := 70) rfl ?_); refine goesL_ (some 7) rfl rfl Try.func70 (by kernel_rfl) rfl #[.int .i64 a1, .int .i64 0, .int .i64 1000000000] rfl aM_ ?_; (with_reducible refine (spec_l01In.calls a1 0 1000000000 true _ A3.out).mono ?_); rintro e w' ⟨rfl, ⟨nd, rfl⟩⟩; refine ⟨_, rfl, ?_⟩))
  (try simp only [Act.put, List.setIfInBounds_toArray, List.set_cons_zero, List.set_cons_succ])
  go_cut [0] (fun v0 wc => ∃ (kq : Nat) (x0_4 : Int), v0 = .int .i64 x0_4 ∧ Aside0 (spec_PowQ.j0 kq x0_4 a1 = some r) ∧ Aside0 (kq ≤ k) ∧ Drawn0 w wc)
  case first =>
   have H := HC5.out
   clear HC5
   by_cases c6 : (Int.tmod a0 3329) < 0
   ·rw [if_pos c6] at H
    have c6b0 := decide_eq_true c6
    clear c6
    (first | rw [c6b0] | (simp only [i64_w, i32_w]; rw [c6b0]) | skip)
    have H' := Aside0.mk H
    clear H
    go_wp2
    go_meet
    case rel => exact ⟨_, (wrap64 ((Int.tmod a0 3329) + 3329)), f0_, H', ⟨by first | omega | exact Nat.le_refl _⟩, d0_⟩
   rw [if_neg c6] at H
   have c6b0 := decide_eq_false c6
   clear c6
   (first | rw [c6b0] | (simp only [i64_w, i32_w]; rw [c6b0]) | skip)
   have H' := Aside0.mk H
   clear H
   go_wp2
   go_meet
   case rel => exact ⟨_, (Int.tmod a0 3329), f0_, H', ⟨by first | omega | exact Nat.le_refl _⟩, d0_⟩
  case rest =>
   clear HC5
   obtain ⟨kq, x0_4, rfl, HA, HJ4, ⟨mc4, rfl⟩⟩ := hcut
   cases kq with
   | zero => exact absurd HA.out (by simp [spec_PowQ.j0])
   | succ kj4 =>
    have H := HA.out
    clear HA
    simp only [spec_PowQ.j0] at H
    have H' := Aside0.mk H
    clear H
    go_wp2
    go_loopg [0, 1, 5] kj4 (fun kq v0 v1 v5 w' => ∃ (x0_2 : Int) (x1_2 : Int) (x5_2 : Int), v0 = .int .i64 x0_2 ∧ v1 = .int .i64 x1_2 ∧ v5 = .int .i64 x5_2 ∧ Aside0 (spec_PowQ.l0 kq x0_2 x1_2 x5_2 = some r) ∧ Aside0 (kq ≤ kj4) ∧ Drawn0 w w')
    case atStart => exact ⟨(x0_4), (a1), (1), f0_, f0_, f0_, H', ⟨Nat.le_refl _⟩, d0_⟩
    case round =>
     clear H'
     obtain ⟨x0_2, x1_2, x5_2, rfl, rfl, rfl, HA, HK2, ⟨m2, rfl⟩⟩ := hrel
     cases gk with
     | zero => exact absurd HA.out (by simp [spec_PowQ.l0])
     | succ k2 =>
      have H := HA.out
      clear HA
      simp only [spec_PowQ.l0] at H
      by_cases c7 : x1_2 > 0
      ·rw [if_pos c7] at H
       have c7b0 := decide_eq_true c7
       clear c7
       by_cases c8 : (Int.tmod x1_2 2) = 1
       ·rw [if_pos c8] at H
        have c8b0 : ((Int.tmod x1_2 2) == 1) = true := beq_iff_eq.mpr c8
        have c8b1 : ((Int.tmod x1_2 2) != 1) = false := bne_eq_false_iff_eq.mpr c8
        clear c8
        have H' := Aside0.mk H
        clear H
        go_wp2
        go_roundg k2
        case measure => have := HJ4.out; have := HK2.out; omega
        case rel => exact ⟨(Int.tmod (wrap64 (x0_2 * x0_2)) 3329), (wrap64 (Int.tdiv x1_2 2)), (Int.tmod (wrap64 (x5_2 * x0_2)) 3329), f0_, f0_, f0_, H', ⟨by have := HJ4.out; have := HK2.out; omega⟩, d0_⟩
       rw [if_neg c8] at H
       have c8b0 : ((Int.tmod x1_2 2) == 1) = false := beq_eq_false_iff_ne.mpr c8
       have c8b1 : ((Int.tmod x1_2 2) != 1) = true := bne_iff_ne.mpr c8
       have H' := Aside0.mk H
       clear H
       go_wp2
       go_roundg k2
       case measure => have := HJ4.out; have := HK2.out; omega
       case rel => exact ⟨(Int.tmod (wrap64 (x0_2 * x0_2)) 3329), (wrap64 (Int.tdiv x1_2 2)), (x5_2), f0_, f0_, f0_, H', ⟨by have := HJ4.out; have := HK2.out; omega⟩, d0_⟩
      rw [if_neg c7] at H
      have c7b0 := decide_eq_false c7
      clear c7
      obtain rfl := Option.some.inj H
      go_wp2
      go_ret
      exact ⟨f0_, d0_⟩
 ·replace c4 := Bool.eq_false_iff.mpr c4
  subst c4
  replace H := iF_ H
  obtain rfl := Option.some.inj H
  go_enter Try.func87, Try.ntmps87
  go_wp2_with (first | ((with_reducible refine gate_callee (f := 70) rfl ?_); refine goesL_ (some 7) rfl rfl Try.func70 (by kernel_rfl) rfl #[.int .i64 a1, .int .i64 0, .int .i64 1000000000] rfl aM_ ?_; (with_reducible refine (spec_l01In.calls a1 0 1000000000 false _ A3.out).mono ?_); rintro e w' ⟨rfl, ⟨nd, rfl⟩⟩; refine ⟨_, rfl, ?_⟩))
  go_ret
  exact ⟨f0_, d0_⟩

/-! ### spec_Turn7: function 88 -/
mutual
def spec_Turn7.j0 : Nat → Int → Option (Int)
 | 0, _ => none
 | k + 1, x0 => spec_Turn7.l0 k x0 0 0
def spec_Turn7.l0 : Nat → Int → Int → Int → Option (Int)
 | 0, _, _, _ => none
 | k + 1, x0, x3, x4 => if x4 < 7 then (spec_Turn7.l0 k (wrap64 (Int.tdiv x0 2)) (wrap64 ((wrap64 (2 * x3)) + (Int.tmod x0 2))) (wrap64 (x4 + 1))) else (some x3)
end
def spec_Turn7.f (k : Nat) (a0 : Int) : Option (Int) := if (Int.tmod a0 128) < 0 then (spec_Turn7.j0 k (wrap64 ((Int.tmod a0 128) + 128))) else (spec_Turn7.j0 k (Int.tmod a0 128))
theorem spec_Turn7.mono_l : ∀ k, (∀ y0, LeO (spec_Turn7.j0 k y0) (spec_Turn7.j0 (k + 1) y0)) ∧ (∀ y0 y1 y2, LeO (spec_Turn7.l0 k y0 y1 y2) (spec_Turn7.l0 (k + 1) y0 y1 y2))
 | 0 => ⟨fun _ r h => by simp [spec_Turn7.j0] at h, fun _ _ _ r h => by simp [spec_Turn7.l0] at h⟩
 | k + 1 => by
  obtain ⟨ih0, ih1⟩ := spec_Turn7.mono_l k
  refine ⟨?_, ?_⟩ <;> (intros; (first | unfold spec_Turn7.j0 | unfold spec_Turn7.l0); exact o2_ ih0 ih1)
theorem spec_Turn7.mono : ∀ a0 k, LeO (spec_Turn7.f k a0) (spec_Turn7.f (k + 1) a0) := by
 intro a0 k
 obtain ⟨ih0, ih1⟩ := spec_Turn7.mono_l k
 unfold spec_Turn7.f
 exact o2_ ih0 ih1
theorem spec_Turn7.calls (k : Nat) (a0 : Int) (r : Int) (w : World) (h : spec_Turn7.f k a0 = some r) :
  Calls Try.prog 88 #[.int .i64 a0] w fun e w' => e = .returned (.int .i64 r) ∧ Drawn0 w w' := by
 delta spec_Turn7.f at h
 have H := h
 clear h
 have HC2 := Aside0.mk H
 clear H
 go_enter Try.func88, Try.ntmps88
 go_upto_if 8 with (fail)
 go_cut [0] (fun v0 wc => ∃ (kq : Nat) (x0_1 : Int), v0 = .int .i64 x0_1 ∧ Aside0 (spec_Turn7.j0 kq x0_1 = some r) ∧ Aside0 (kq ≤ k) ∧ Drawn0 w wc)
 case first =>
  have H := HC2.out
  clear HC2
  by_cases c3 : (Int.tmod a0 128) < 0
  ·rw [if_pos c3] at H
   have c3b0 := decide_eq_true c3
   clear c3
   (first | rw [c3b0] | (simp only [i64_w, i32_w]; rw [c3b0]) | skip)
   have H' := Aside0.mk H
   clear H
   go_wp2
   go_meet
   case rel => exact ⟨_, (wrap64 ((Int.tmod a0 128) + 128)), f0_, H', ⟨by first | omega | exact Nat.le_refl _⟩, d0_⟩
  rw [if_neg c3] at H
  have c3b0 := decide_eq_false c3
  clear c3
  (first | rw [c3b0] | (simp only [i64_w, i32_w]; rw [c3b0]) | skip)
  have H' := Aside0.mk H
  clear H
  go_wp2
  go_meet
  case rel => exact ⟨_, (Int.tmod a0 128), f0_, H', ⟨by first | omega | exact Nat.le_refl _⟩, d0_⟩
 case rest =>
  clear HC2
  obtain ⟨kq, x0_1, rfl, HA, HJ1, ⟨mc1, rfl⟩⟩ := hcut
  cases kq with
  | zero => exact absurd HA.out (by simp [spec_Turn7.j0])
  | succ kj1 =>
   have H := HA.out
   clear HA
   simp only [spec_Turn7.j0] at H
   have H' := Aside0.mk H
   clear H
   go_wp2
   go_loopg [0, 3, 4] kj1 (fun kq v0 v3 v4 w' => ∃ (x0_2 : Int) (x3_2 : Int) (x4_2 : Int), v0 = .int .i64 x0_2 ∧ v3 = .int .i64 x3_2 ∧ v4 = .int .i64 x4_2 ∧ Aside0 (spec_Turn7.l0 kq x0_2 x3_2 x4_2 = some r) ∧ Aside0 (kq ≤ kj1) ∧ Drawn0 w w')
   case atStart => exact ⟨(x0_1), (0), (0), f0_, f0_, f0_, H', ⟨Nat.le_refl _⟩, d0_⟩
   case round =>
    clear H'
    obtain ⟨x0_2, x3_2, x4_2, rfl, rfl, rfl, HA, HK2, ⟨m2, rfl⟩⟩ := hrel
    cases gk with
    | zero => exact absurd HA.out (by simp [spec_Turn7.l0])
    | succ k2 =>
     have H := HA.out
     clear HA
     simp only [spec_Turn7.l0] at H
     by_cases c4 : x4_2 < 7
     ·rw [if_pos c4] at H
      have c4b0 := decide_eq_true c4
      clear c4
      have H' := Aside0.mk H
      clear H
      go_wp2
      go_roundg k2
      case measure => have := HJ1.out; have := HK2.out; omega
      case rel => exact ⟨(wrap64 (Int.tdiv x0_2 2)), (wrap64 ((wrap64 (2 * x3_2)) + (Int.tmod x0_2 2))), (wrap64 (x4_2 + 1)), f0_, f0_, f0_, H', ⟨by have := HJ1.out; have := HK2.out; omega⟩, d0_⟩
     rw [if_neg c4] at H
     have c4b0 := decide_eq_false c4
     clear c4
     obtain rfl := Option.some.inj H
     go_wp2
     go_ret
     exact ⟨f0_, d0_⟩

/-! ### spec_Ntt: function 53 -/
mutual
def spec_Ntt.l0 : Nat → List Int → Int → Int → Option (List Int)
 | 0, _, _, _ => none
 | k + 1, x3, x4, x5 => if x5 ≥ 2 then (spec_Ntt.l1 k x3 x4 x5 0) else (some x3)
def spec_Ntt.l1 : Nat → List Int → Int → Int → Int → Option (List Int)
 | 0, _, _, _, _ => none
 | k + 1, x3, x4, x5, x6 => if x6 < 256 then ((spec_Turn7.f k x4).bind fun t895 => ((spec_PowQ.f k 17 t895).bind fun t896 => (spec_Ntt.l2 k x3 (wrap64 (x4 + 1)) x5 x6 t896 x6))) else (spec_Ntt.l0 k x3 x4 (wrap64 (Int.tdiv x5 2)))
def spec_Ntt.l2 : Nat → List Int → Int → Int → Int → Int → Int → Option (List Int)
 | 0, _, _, _, _, _, _ => none
 | k + 1, x3, x4, x5, x6, x7, x8 => if x8 < (wrap64 (x6 + x5)) then (if 0 ≤ (wrap64 (x8 + x5)) then (if (wrap64 (x8 + x5)) < (x3.length : Int) then (if 0 ≤ x8 then (if x8 < (x3.length : Int) then ((some (x3.set ((wrap64 (x8 + x5)) : Int).toNat (Int.tmod (wrap64 ((wrap64 ((rd x3 x8) - (Int.tmod (wrap64 (x7 * (rd x3 (wrap64 (x8 + x5))))) 3329))) + 3329)) 3329) : List Int)).bind fun y899 => (spec_Ntt.l2 k (y899.set (x8 : Int).toNat (Int.tmod (wrap64 ((rd y899 x8) + (Int.tmod (wrap64 (x7 * (rd x3 (wrap64 (x8 + x5))))) 3329))) 3329)) x4 x5 x6 x7 (wrap64 (x8 + 1)))) else (none)) else (none)) else (none)) else (none)) else (spec_Ntt.l1 k x3 x4 x5 (wrap64 (x6 + (wrap64 (2 * x5)))))
end
def spec_Ntt.f (k : Nat) (l0 : List Int) : Option (List Int) := (spec_PolyOk.f k l0).bind fun t885 => (if t885 = true then ((some (([] : List Int) : List Int)).bind fun y889 => (if y889.length + l0.length < 17592186044416 then (spec_Ntt.l0 k (y889 ++ l0) 1 128) else (none))) else (some (([] : List Int))))
theorem spec_Ntt.mono_l : ∀ k, (∀ y0 y1 y2, LeO (spec_Ntt.l0 k y0 y1 y2) (spec_Ntt.l0 (k + 1) y0 y1 y2)) ∧ (∀ y0 y1 y2 y3, LeO (spec_Ntt.l1 k y0 y1 y2 y3) (spec_Ntt.l1 (k + 1) y0 y1 y2 y3)) ∧ (∀ y0 y1 y2 y3 y4 y5, LeO (spec_Ntt.l2 k y0 y1 y2 y3 y4 y5) (spec_Ntt.l2 (k + 1) y0 y1 y2 y3 y4 y5))
 | 0 => ⟨fun _ _ _ r h => by simp [spec_Ntt.l0] at h, fun _ _ _ _ r h => by simp [spec_Ntt.l1] at h, fun _ _ _ _ _ _ r h => by simp [spec_Ntt.l2] at h⟩
 | k + 1 => by
  obtain ⟨ih0, ih1, ih2⟩ := spec_Ntt.mono_l k
  refine ⟨?_, ?_, ?_⟩ <;> (intros; (first | unfold spec_Ntt.l0 | unfold spec_Ntt.l1 | unfold spec_Ntt.l2); exact o6_ ih0 ih1 ih2 spec_PolyOk.mono spec_PowQ.mono spec_Turn7.mono)
theorem spec_Ntt.mono : ∀ a0 k, LeO (spec_Ntt.f k a0) (spec_Ntt.f (k + 1) a0) := by
 intro a0 k
 obtain ⟨ih0, ih1, ih2⟩ := spec_Ntt.mono_l k
 unfold spec_Ntt.f
 exact o6_ ih0 ih1 ih2 spec_PolyOk.mono spec_PowQ.mono spec_Turn7.mono
theorem spec_Ntt.calls (k : Nat) (A0 : Option Addr) (c0 : Nat) (l0 : List Int) (r : List Int) (w : World) (hr0 : Kd.C (Kd.int .i64) w A0 l0.length l0) (hc0 : l0.length ≤ c0) (h : spec_Ntt.f k l0 = some r) :
  Calls Try.prog 53 #[.slice A0 l0.length c0] w fun e w' => ∃ v0_ : Value, e = .returned (v0_) ∧ Kd.R (Kd.int .i64) 3 w' w.heap.size (fun _ => True) v0_ r ∧ Below w.heap.size w w' := by
 have HR0 := Aside0.mk hr0
 have HC0 := Aside0.mk hc0
 clear hr0 hc0
 have HB := Aside0.mk (Below.refl w.heap.size w)
 delta spec_Ntt.f at h
 have H := h
 clear h
 obtain ⟨t885, A2, H⟩ := bN_ H
 by_cases c3 : t885 = true
 ·subst c3
  replace H := iT_ H
  obtain ⟨y889, hy889⟩ : ∃ y_ : List Int, y_ = (([] : List Int)) := ⟨_, rfl⟩
  first | replace H := yb_ hy889 H | rw [← hy889] at H
  have Ny889 := Aside0.mk hy889
  clear hy889
  obtain ⟨c4, H⟩ := iN_ H
  have LMc4 := Aside0.mk c4
  clear c4
  obtain ⟨y892, hy892⟩ : ∃ y_ : List Int, y_ = (y889 ++ l0) := ⟨_, rfl⟩
  first | replace H := yb_ hy892 H | rw [← hy892] at H
  have Ny892 := Aside0.mk hy892
  clear hy892
  have H' := Aside0.mk H
  clear H
  go_enter Try.func53, Try.ntmps53
  go_wp2_with (first | ((with_reducible refine gate_callee (f := 86) rfl ?_); refine goesL_ (some 11) rfl rfl Try.func86 (by kernel_rfl) rfl #[.slice A0 l0.length c0] rfl aM_ ?_; (with_reducible refine (spec_PolyOk.calls k _ _ l0 true _ ?side1 ?side2 A2.out).mono ?_); (case side1 => exact cR_ HR0.out); (case side2 => exact HC0.out); rintro e w' ⟨rfl, ⟨nd, rfl⟩⟩; refine ⟨_, rfl, ?_⟩) | ((with_reducible refine gate_dst (N := 14) rfl ?_); refine Kd.R_lit (Kd.int .i64) _ 3 ?hg (N := 14) ?hd (xs := ([] : List Int)) (inner := []) (ok := fun _ => True) (okp := fun _ => True) ?hr ?hp (fun _ hk => hk) trivial (Below.refl _ _) (Nat.le_refl _) (by simp) ?_; (case hd => rfl); (case hg => rfl); (case hr => first | (go_simp; done) | (go_simp; rfl)); (case hp => exact (Reps.none _ _)); intro v890 w5 ho6 hb hg_ hnew_; clear hg_ hnew_; (first | rw [← Ny889.out] at ho6 | (simp only [Int.reduceToNat] at ho6; rw [← Ny889.out] at ho6)); have n_ := b_ (Kd.R_lower ho6 (below_size (hB_))) <| c_ (below_step (hB_) hb); clear HB; obtain ⟨HO891, HB⟩ := n_; clear hb ho6) | ((with_reducible refine gate_builtin (b := .append) (xs := #[.tmp 14, .tmp 15]) rfl ?_); at_builtin; refine Kd.R_append_rows (Kd.int .i64) (w0 := w) w.heap.size rfl (.tmp 14) (.tmp 15) 22 3 (.int .i64 0) 8 rfl Try.underlying22 info3 rfl (by decide) (by omega) v890 y889 l0 _ _ _ (fun _ => True) (fun _ => False) rfl rfl ?aO ?aR (fun _ _ h => h) (fun _ h => h.elim) ?aF ?aB ?aS ?aL ?_; (case aR => exact cR_ (Kd.C_below HR0.out HB.out)); (case aB => exact (hB_)); (case aF => exact (fun _ _ => trivial)); (case aO => exact (rR_ HO891.out)); (case aS => exact (below_size (hB_))); (case aL => have := LMc4.out; omega); intro v893 w7 ho hb hg hat; rw [← Ny892.out] at ho; have n_ := b_ (hb) <| c_ (ho); clear HO891 HB; obtain ⟨HB, HO894⟩ := n_; clear ho hb hg hat))
  go_loopg [4, 5] k (fun kq v4 v5 w' => ∃ (x3_1 : List Int) (x4_1 : Int) (x5_1 : Int), v4 = .int .i64 x4_1 ∧ v5 = .int .i64 x5_1 ∧ Aside0 (spec_Ntt.l0 kq x3_1 x4_1 x5_1 = some r) ∧ Aside0 (kq ≤ k) ∧ Aside0 (Kd.R (Kd.int .i64) 3 w' w.heap.size (fun _ => True) v893 x3_1) ∧ Aside0 (Below w.heap.size w w'))
  case atStart => exact ⟨(y892), (1), (128), f0_, f0_, H', ⟨Nat.le_refl _⟩, ⟨rR_ HO894.out⟩, ⟨hB_⟩⟩
  case round =>
   clear H'
   obtain ⟨x3_1, x4_1, x5_1, rfl, rfl, HA, HK1, HO_3, HB⟩ := hrel
   cases gk with
   | zero => exact absurd HA.out (by simp [spec_Ntt.l0])
   | succ k1 =>
    have H := HA.out
    clear HA
    simp only [spec_Ntt.l0] at H
    by_cases c8 : x5_1 ≥ 2
    rotate_left
    ·rw [if_neg c8] at H
     have c8b0 := decide_eq_false c8
     clear c8
     obtain rfl := Option.some.inj H
     go_wp2
     go_ret
     exact ⟨_, f1_, rR_ HO_3.out, hB_⟩
    rw [if_pos c8] at H
    have c8b0 := decide_eq_true c8
    clear c8
    have H' := Aside0.mk H
    clear H
    go_wp2
    go_loopg [4, 6] k1 (fun kq v4 v6 w' => ∃ (x3_2 : List Int) (x4_2 : Int) (x6_2 : Int), v4 = .int .i64 x4_2 ∧ v6 = .int .i64 x6_2 ∧ Aside0 (spec_Ntt.l1 kq x3_2 x4_2 x5_1 x6_2 = some r) ∧ Aside0 (kq ≤ k1) ∧ Aside0 (Kd.R (Kd.int .i64) 3 w' w.heap.size (fun _ => True) v893 x3_2) ∧ Aside0 (Below w.heap.size w w'))
    case atStart => exact ⟨(x3_1), (x4_1), (0), f0_, f0_, H', ⟨Nat.le_refl _⟩, ⟨rR_ HO_3.out⟩, ⟨hB_⟩⟩
    case round =>
     clear H'
     obtain ⟨x3_2, x4_2, x6_2, rfl, rfl, HA, HK2, HO_3, HB⟩ := hrel
     cases gk with
     | zero => exact absurd HA.out (by simp [spec_Ntt.l1])
     | succ k2 =>
      have H := HA.out
      clear HA
      simp only [spec_Ntt.l1] at H
      by_cases c9 : x6_2 < 256
      rotate_left
      ·rw [if_neg c9] at H
       have c9b0 := decide_eq_false c9
       clear c9
       have H' := Aside0.mk H
       clear H
       go_wp2
       go_roundg k2
       case measure => have := HK1.out; have := HK2.out; omega
       case rel => exact ⟨(x3_2), (x4_2), (wrap64 (Int.tdiv x5_1 2)), f0_, f0_, H', ⟨by have := HK1.out; have := HK2.out; omega⟩, ⟨rR_ HO_3.out⟩, ⟨hB_⟩⟩
      rw [if_pos c9] at H
      have c9b0 := decide_eq_true c9
      clear c9
      obtain ⟨t895, A10, H⟩ := bN_ H
      obtain ⟨t896, A11, H⟩ := bN_ H
      have H' := Aside0.mk H
      clear H
      go_wp2_with (first | ((with_reducible refine gate_callee (f := 88) rfl ?_); refine goesL_ (some 28) rfl rfl Try.func88 (by kernel_rfl) rfl #[.int .i64 x4_2] rfl aM_ ?_; (with_reducible refine (spec_Turn7.calls k2 x4_2 t895 _ A10.out).mono ?_); rintro e w' ⟨rfl, ⟨nd, rfl⟩⟩; refine ⟨_, rfl, ?_⟩) | ((with_reducible refine gate_callee (f := 87) rfl ?_); refine goesL_ (some 29) rfl rfl Try.func87 (by kernel_rfl) rfl #[.int .i64 17, .int .i64 t895] rfl aM_ ?_; (with_reducible refine (spec_PowQ.calls k2 17 t895 t896 _ A11.out).mono ?_); rintro e w' ⟨rfl, ⟨nd, rfl⟩⟩; refine ⟨_, rfl, ?_⟩))
      go_loopg [8] k2 (fun kq v8 w' => ∃ (x3_3 : List Int) (x8_3 : Int), v8 = .int .i64 x8_3 ∧ Aside0 (spec_Ntt.l2 kq x3_3 (wrap64 (x4_2 + 1)) x5_1 x6_2 t896 x8_3 = some r) ∧ Aside0 (kq ≤ k2) ∧ Aside0 (Kd.R (Kd.int .i64) 3 w' w.heap.size (fun _ => True) v893 x3_3) ∧ Aside0 (Below w.heap.size w w'))
      case atStart => exact ⟨(x3_2), (x6_2), f0_, H', ⟨Nat.le_refl _⟩, ⟨rR_ HO_3.out⟩, ⟨hB_⟩⟩
      case round =>
       clear H'
       obtain ⟨x3_3, x8_3, rfl, HA, HK3, HO_3, HB⟩ := hrel
       cases gk with
       | zero => exact absurd HA.out (by simp [spec_Ntt.l2])
       | succ k3 =>
        have H := HA.out
        clear HA
        simp only [spec_Ntt.l2] at H
        by_cases c12 : x8_3 < (wrap64 (x6_2 + x5_1))
        rotate_left
        ·rw [if_neg c12] at H
         have c12b0 := decide_eq_false c12
         clear c12
         have H' := Aside0.mk H
         clear H
         go_wp2
         go_roundg k3
         case measure => have := HK1.out; have := HK2.out; have := HK3.out; omega
         case rel => exact ⟨(x3_3), ((wrap64 (x4_2 + 1))), (wrap64 (x6_2 + (wrap64 (2 * x5_1)))), f0_, f0_, H', ⟨by have := HK1.out; have := HK2.out; have := HK3.out; omega⟩, ⟨rR_ HO_3.out⟩, ⟨hB_⟩⟩
        rw [if_pos c12] at H
        have c12b0 := decide_eq_true c12
        clear c12
        obtain ⟨ji13, hji13⟩ : ∃ j_ : Int, (wrap64 (x8_3 + x5_1)) = j_ := ⟨_, rfl⟩
        first | rw [hji13] at H | simp only [hji13] at H
        have hji13w : (IntKind.i64.wrap (x8_3 + x5_1)) = ji13 := (i64_w _).trans hji13
        obtain ⟨c14b0, H⟩ := iD_ H
        obtain ⟨c15b0, H⟩ := iD_ H
        obtain ⟨c16b0, H⟩ := iD_ H
        obtain ⟨c17b0, H⟩ := iD_ H
        obtain ⟨y899, hy899⟩ : ∃ y_ : List Int, y_ = (x3_3.set ((ji13) : Int).toNat (Int.tmod (wrap64 ((wrap64 ((rd x3_3 x8_3) - (Int.tmod (wrap64 (t896 * (rd x3_3 (ji13)))) 3329))) + 3329)) 3329)) := ⟨_, rfl⟩
        first | replace H := yb_ hy899 H | rw [← hy899] at H
        have Ny899 := Aside0.mk hy899
        clear hy899
        obtain ⟨y901, hy901⟩ : ∃ y_ : List Int, y_ = (y899.set (x8_3 : Int).toNat (Int.tmod (wrap64 ((rd y899 x8_3) + (Int.tmod (wrap64 (t896 * (rd x3_3 (ji13)))) 3329))) 3329)) := ⟨_, rfl⟩
        first | replace H := yb_ hy901 H | rw [← hy901] at H
        have Ny901 := Aside0.mk hy901
        clear hy901
        have H' := Aside0.mk H
        clear H
        obtain ⟨Ao20, co20, eo20⟩ := Kd.R_slice HO_3.out
        subst eo20
        have p897 : 0 ≤ ((ji13) : Int) := oD_
        have q897 : (ji13) < (x3_3.length : Int) := oD_
        obtain ⟨ad897, e897, hx897_0⟩ := Kd.at_int (Kd.R_reads' HO_3.out).2.2 (ji13) p897 q897
        cases e897
        replace p897 := eq_true p897
        replace q897 := eq_true q897
        have p898 : 0 ≤ (x8_3 : Int) := oD_
        have q898 : x8_3 < (x3_3.length : Int) := oD_
        obtain ⟨ad898, e898, hx898_0⟩ := Kd.at_int (Kd.R_reads' HO_3.out).2.2 x8_3 p898 q898
        obtain rfl : ad897 = ad898 := (by injection e898)
        replace p898 := eq_true p898
        replace q898 := eq_true q898
        have p18 : 0 ≤ ((ji13) : Int) := oD_
        have q18 : ((ji13) : Int) < ((x3_3.length : Int) : Int) := oD_
        obtain ⟨go18, co18, eo18, gb18, gl18, cl18, HG18⟩ := Kd.R_form HO_3.out (by omega)
        (first | cases eo18 | (injection eo18 with ea_ en_ ec_; (first | subst ea_ | (injection ea_ with ea_; subst ea_)); subst ec_; clear en_))
        have GB18 := Aside0.mk gb18
        have GG18 := Aside0.mk HG18
        clear gb18 gl18 HG18
        (first | simp only [add_plain] at hx897_0 | skip)
        (first | simp only [add_plain] at hx898_0 | skip)
        obtain ⟨hx18_0, hf18_0⟩ := Kd.R_celln 0 HO_3.out ((ji13) : Int) p18 q18
        replace p18 := eq_true p18
        replace q18 := eq_true q18
        have HP21 := Kd.R_putg HO_3.out ((ji13) : Int) (Int.tmod (wrap64 ((wrap64 ((rd x3_3 x8_3) - (Int.tmod (wrap64 (t896 * (rd x3_3 (ji13)))) 3329))) + 3329)) 3329)
        go_wp2_with (first | ((with_reducible refine gate_store (t := 3) (p := 61) rfl ?_); refine store_event (t := 3) (p := 61) (v := ?vo_w22) (w1 := (wr.setCell ⟨go18, ((ji13) : Int).toNat, none⟩ (.int .i64 (Int.tmod (wrap64 ((wrap64 ((rd x3_3 x8_3) - (Int.tmod (wrap64 (t896 * (rd x3_3 (ji13)))) 3329))) + 3329)) 3329)))) ?hg ?ho ?hn ?hr ?_; (case ho => rfl); (case hg => rfl); (case hn => rfl); (case hr => first | (go_simp; done) | (go_simp; rfl)); intro w22 hw; have hg : wr.grownBy w22 (some go18) := (by rw [hw]; exact HP21.2); have hp_ : Kd.R (Kd.int .i64) 3 w22 w.heap.size (fun _ => True) (.slice (some ⟨go18, 0, none⟩) x3_3.length co20) y899 := (by rw [hw, Ny899.out]; exact HP21.1); clear HP21; have n_ := b_ (hp_) <| c_ (by rw [hw]; exact below_set (HB.out) GB18.out : Below w.heap.size w w22); clear HO_3 HB; obtain ⟨HO_3, HB⟩ := n_; clear hg hw hp_; have p900 : 0 ≤ (x8_3 : Int) := oD_; have q900 : x8_3 < (y899.length : Int) := (by have h_ : (x8_3 : Int) < ((x3_3.length : Int) : Int) := oD_; first | (have e_ := (Kd.R_reads' HO_3.out).1; omega) | simpa only [Ny899.out, List.length_set] using h_); have ql900 : ((x8_3 : Int) < ((x3_3.length : Int) : Int)) = True := eq_true oD_; obtain ⟨ad900, e900, hx900_0⟩ := Kd.at_int (Kd.R_reads' HO_3.out).2.2 x8_3 p900 q900; obtain rfl : (⟨go18, 0, none⟩ : Addr) = ad900 := (by injection e900); (first | simp only [add_plain] at hx900_0 | simp only [add_at] at hx900_0 | simp only [Addr.add, Nat.zero_add] at hx900_0 | skip); replace p900 := eq_true p900; replace q900 := eq_true q900; have p19 : 0 ≤ (x8_3 : Int) := oD_; have q19 : (x8_3 : Int) < ((x3_3.length : Int) : Int) := oD_; obtain ⟨hx19_0, hf19_0⟩ := Kd.R_celln 0 HO_3.out (x8_3 : Int) p19 q19; replace p19 := eq_true p19; replace q19 := eq_true q19; obtain ⟨hy23_, hz23_⟩ := Kd.R_celln 0 HO_3.out (x8_3 : Int) oD_ oD_; have HP23 := Kd.R_putg HO_3.out (x8_3 : Int) (Int.tmod (wrap64 ((rd y899 x8_3) + (Int.tmod (wrap64 (t896 * (rd x3_3 (ji13)))) 3329))) 3329)) | ((with_reducible refine gate_store (t := 3) (p := 71) rfl ?_); refine store_event (t := 3) (p := 71) (v := ?vo_w24) (w1 := (w22.setCell ⟨go18, (x8_3 : Int).toNat, none⟩ (.int .i64 (Int.tmod (wrap64 ((rd y899 x8_3) + (Int.tmod (wrap64 (t896 * (rd x3_3 (ji13)))) 3329))) 3329)))) ?hg ?ho ?hn ?hr ?_; (case ho => rfl); (case hg => rfl); (case hn => rfl); (case hr => first | (go_simp; done) | (go_simp; rfl)); intro w24 hw; have hg : w22.grownBy w24 (some go18) := (by rw [hw]; exact HP23.2); have hp_ : Kd.R (Kd.int .i64) 3 w24 w.heap.size (fun _ => True) (.slice (some ⟨go18, 0, none⟩) x3_3.length co20) y901 := (by rw [hw, Ny901.out]; exact HP23.1); clear HP23; have n_ := b_ (hp_) <| c_ (by rw [hw]; exact below_set (HB.out) GB18.out : Below w.heap.size w w24); clear HO_3 HB; obtain ⟨HO_3, HB⟩ := n_; clear hg hw hp_))
        go_roundg k3
        case measure => have := HK1.out; have := HK2.out; have := HK3.out; omega
        case rel => exact ⟨(y901), (wrap64 (x8_3 + 1)), f0_, H', ⟨by have := HK1.out; have := HK2.out; have := HK3.out; omega⟩, ⟨rR_ HO_3.out⟩, ⟨hB_⟩⟩
 ·replace c3 := Bool.eq_false_iff.mpr c3
  subst c3
  replace H := iF_ H
  obtain ⟨y886, hy886⟩ : ∃ y_ : List Int, y_ = (([] : List Int)) := ⟨_, rfl⟩
  first | replace H := yb_ hy886 H | rw [← hy886] at H
  have Ny886 := Aside0.mk hy886
  clear hy886
  obtain rfl := Option.some.inj H
  go_enter Try.func53, Try.ntmps53
  go_wp2_with (first | ((with_reducible refine gate_callee (f := 86) rfl ?_); refine goesL_ (some 11) rfl rfl Try.func86 (by kernel_rfl) rfl #[.slice A0 l0.length c0] rfl aM_ ?_; (with_reducible refine (spec_PolyOk.calls k _ _ l0 false _ ?side1 ?side2 A2.out).mono ?_); (case side1 => exact cR_ HR0.out); (case side2 => exact HC0.out); rintro e w' ⟨rfl, ⟨nd, rfl⟩⟩; refine ⟨_, rfl, ?_⟩) | ((with_reducible refine gate_dst (N := 13) rfl ?_); refine Kd.R_lit (Kd.int .i64) _ 3 ?hg (N := 13) ?hd (xs := ([] : List Int)) (inner := []) (ok := fun _ => True) (okp := fun _ => True) ?hr ?hp (fun _ hk => hk) trivial (Below.refl _ _) (Nat.le_refl _) (by simp) ?_; (case hd => rfl); (case hg => rfl); (case hr => first | (go_simp; done) | (go_simp; rfl)); (case hp => exact (Reps.none _ _)); intro v887 w25 ho26 hb hg_ hnew_; clear hg_ hnew_; (first | rw [← Ny886.out] at ho26 | (simp only [Int.reduceToNat] at ho26; rw [← Ny886.out] at ho26)); have n_ := b_ (Kd.R_lower ho26 (below_size (hB_))) <| c_ (below_step (hB_) hb); clear HB; obtain ⟨HO888, HB⟩ := n_; clear hb ho26))
  go_ret
  exact ⟨_, f1_, rR_ HO888.out, hB_⟩

/-! ### spec_PolyAdd: function 54 -/
def spec_PolyAdd.l0 : Nat → List Int → List Int → List Int → Int → Option (List Int)
 | 0, _, _, _, _ => none
 | k + 1, x0, x1, x5, x6 => if x6 < 256 then ((spec_PolyOk.f k x0).bind fun t905 => (if t905 = true then ((spec_PolyOk.f k x1).bind fun t906 => (if t906 = true then (if 0 ≤ x6 then (if x6 < (x0.length : Int) then (if x6 < (x1.length : Int) then (if x5.length < 17592186044416 then (spec_PolyAdd.l0 k x0 x1 (x5 ++ [Int.tmod (wrap64 ((rd x0 x6) + (rd x1 x6))) 3329]) (wrap64 (x6 + 1))) else (none)) else (none)) else (none)) else (none)) else (some x5))) else (some x5))) else (some x5)
def spec_PolyAdd.f (k : Nat) (l0 : List Int) (l1 : List Int) : Option (List Int) := spec_PolyAdd.l0 k l0 l1 (([] : List Int)) 0
theorem spec_PolyAdd.mono_l : ∀ k, (∀ y0 y1 y2 y3, LeO (spec_PolyAdd.l0 k y0 y1 y2 y3) (spec_PolyAdd.l0 (k + 1) y0 y1 y2 y3))
 | 0 => fun _ _ _ _ r h => by simp [spec_PolyAdd.l0] at h
 | k + 1 => by
  have ih0 := spec_PolyAdd.mono_l k
  intros; unfold spec_PolyAdd.l0; exact o2_ ih0 spec_PolyOk.mono
theorem spec_PolyAdd.mono : ∀ a0 a1 k, LeO (spec_PolyAdd.f k a0 a1) (spec_PolyAdd.f (k + 1) a0 a1) := by
 intro a0 a1 k
 have ih0 := spec_PolyAdd.mono_l k
 unfold spec_PolyAdd.f
 exact o2_ ih0 spec_PolyOk.mono
def spec_PolyAdd.T5 : Bool × List (List Nat × List Nat) := (true, [([], []), ([], []), ([], []), ([1, 2], [1, 2]), ([3], [3]), ([], []), ([], []), ([5, 6], [5, 6]), ([7], [7]), ([4, 8], [4, 8]), ([9], [9]), ([10], [10]), ([0, 11], [0, 11]), ([12, 12, 0, 1, 2, 3, 4, 5, 6, 7, 8, 9, 10, 11, 12], [0, 12])])
def spec_PolyAdd.B5 : List Nat := [0, 0, 0, 6, 14, 0, 0, 96, 224, 510, 1022, 2046, 4095, 8191]
theorem spec_PolyAdd.tab5 : rtab .any (opsOf Try.f54 5) = spec_PolyAdd.T5 := by kernel_rfl
theorem spec_PolyAdd.bits5 : waitsOk spec_PolyAdd.T5.2 spec_PolyAdd.B5 = true := by kernel_rfl
theorem spec_PolyAdd.calls (k : Nat) (A0 : Option Addr) (c0 : Nat) (l0 : List Int) (A1 : Option Addr) (c1 : Nat) (l1 : List Int) (r : List Int) (w : World) (hr0 : Kd.C (Kd.int .i64) w A0 l0.length l0) (hc0 : l0.length ≤ c0) (hr1 : Kd.C (Kd.int .i64) w A1 l1.length l1) (hc1 : l1.length ≤ c1) (h : spec_PolyAdd.f k l0 l1 = some r) :
  Calls Try.prog 54 #[.slice A0 l0.length c0, .slice A1 l1.length c1] w fun e w' => ∃ v0_ : Value, e = .returned (v0_) ∧ Kd.R (Kd.int .i64) 3 w' w.heap.size (fun _ => True) v0_ r ∧ Below w.heap.size w w' := by
 have HR0 := Aside0.mk hr0
 have HC0 := Aside0.mk hc0
 clear hr0 hc0
 have HR1 := Aside0.mk hr1
 have HC1 := Aside0.mk hc1
 clear hr1 hc1
 have HB := Aside0.mk (Below.refl w.heap.size w)
 delta spec_PolyAdd.f at h
 have H := h
 clear h
 obtain ⟨y902, hy902⟩ : ∃ y_ : List Int, y_ = (([] : List Int)) := ⟨_, rfl⟩
 first | replace H := yb_ hy902 H | rw [← hy902] at H
 have Ny902 := Aside0.mk hy902
 clear hy902
 have H' := Aside0.mk H
 clear H
 go_enter Try.func54, Try.ntmps54
 go_wp2_with (first | ((with_reducible refine gate_dst (N := 7) rfl ?_); refine Kd.R_lit (Kd.int .i64) _ 3 ?hg (N := 7) ?hd (xs := ([] : List Int)) (inner := []) (ok := fun _ => True) (okp := fun _ => True) ?hr ?hp (fun _ hk => hk) trivial (Below.refl _ _) (Nat.le_refl _) (by simp) ?_; (case hd => rfl); (case hg => rfl); (case hr => first | (go_simp; done) | (go_simp; rfl)); (case hp => exact (Reps.none _ _)); intro v903 w3 ho4 hb hg_ hnew_; clear hg_ hnew_; (first | rw [← Ny902.out] at ho4 | (simp only [Int.reduceToNat] at ho4; rw [← Ny902.out] at ho4)); have n_ := b_ (Kd.R_lower ho4 (below_size (hB_))) <| c_ (below_step (hB_) hb); clear HB; obtain ⟨HO904, HB⟩ := n_; clear hb ho4))
 go_loopg [5, 6] k (fun kq v5 v6 w' => ∃ (x5_1 : List Int) (x6_1 : Int), v6 = .int .i64 x6_1 ∧ Aside0 (spec_PolyAdd.l0 kq l0 l1 x5_1 x6_1 = some r) ∧ Aside0 (kq ≤ k) ∧ Aside0 (Kd.R (Kd.int .i64) 3 w' w.heap.size (fun _ => True) v5 x5_1) ∧ Aside0 (Below w.heap.size w w'))
 case atStart => exact ⟨(y902), (0), f0_, H', ⟨Nat.le_refl _⟩, ⟨rR_ HO904.out⟩, ⟨hB_⟩⟩
 case round =>
  clear H'
  obtain ⟨x5_1, x6_1, rfl, HA, HK1, HO_5, HB⟩ := hrel
  cases gk with
  | zero => exact absurd HA.out (by simp [spec_PolyAdd.l0])
  | succ k1 =>
   have H := HA.out
   clear HA
   simp only [spec_PolyAdd.l0] at H
   by_cases c5 : x6_1 < 256
   rotate_left
   ·rw [if_neg c5] at H
    have c5b0 := decide_eq_false c5
    clear c5
    obtain rfl := Option.some.inj H
    go_wp2
    go_ret
    exact ⟨_, f1_, rR_ HO_5.out, hB_⟩
   rw [if_pos c5] at H
   have c5b0 := decide_eq_true c5
   clear c5
   obtain ⟨t905, A6, H⟩ := bN_ H
   by_cases c7 : t905 = true
   ·subst c7
    replace H := iT_ H
    obtain ⟨t906, A8, H⟩ := bN_ H
    by_cases c9 : t906 = true
    ·subst c9
     replace H := iT_ H
     obtain ⟨c10b0, H⟩ := iD_ H
     obtain ⟨c11b0, H⟩ := iD_ H
     obtain ⟨c12b0, H⟩ := iD_ H
     obtain ⟨c13, H⟩ := iN_ H
     have LMc13 := Aside0.mk c13
     clear c13
     obtain ⟨y909, hy909⟩ : ∃ y_ : List Int, y_ = (x5_1 ++ [Int.tmod (wrap64 ((rd l0 x6_1) + (rd l1 x6_1))) 3329]) := ⟨_, rfl⟩
     first | replace H := yb_ hy909 H | rw [← hy909] at H
     have Ny909 := Aside0.mk hy909
     clear hy909
     have H' := Aside0.mk H
     clear H
     try go_wp2_with (first | (go_at_call 86; (with_reducible refine (spec_PolyOk.calls k1 _ _ l0 true _ ?side1 ?side2 A6.out).mono ?_); (case side1 => exact cR_ (Kd.C_below HR0.out HB.out)); (case side2 => exact HC0.out); rintro e w' ⟨rfl, ⟨nd, rfl⟩⟩) | (go_at_call 86; (with_reducible refine (spec_PolyOk.calls k1 _ _ l1 true _ ?side1 ?side2 A8.out).mono ?_); (case side1 => exact cR_ (Kd.C_below HR1.out (hB_))); (case side2 => exact HC1.out); rintro e w' ⟨rfl, ⟨nd, rfl⟩⟩))
     (try (rw [drewN_self wr]; generalize hq_ : World.drewN wr _ = wr; have n_ := b_ (show Kd.R (Kd.int .i64) 3 wr w.heap.size (fun _ => True) u5 x5_1 from by rw [← hq_]; exact (rR_ HO_5.out)) <| c_ (show Below w.heap.size w wr from by rw [← hq_]; exact (hB_)); clear HO_5 HB hq_; obtain ⟨HO_5, HB⟩ := n_))
     have n_ := b_ (Kd.R_drew HO_5.out) <| c_ (below_drew1 HB.out)
     clear HO_5 HB
     obtain ⟨HO_5, HB⟩ := n_
     have p907 : 0 ≤ (x6_1 : Int) := oD_
     have q907 : x6_1 < (l0.length : Int) := oD_
     obtain ⟨ad907, e907, hx907_0⟩ := Kd.at_int HR0.out x6_1 p907 q907
     have hw907_0 := hx907_0
     cases e907
     replace hx907_0 := (HB.out.cell (World.block_lt_of_cell? w _ hx907_0)).trans hx907_0
     replace p907 := eq_true p907
     replace q907 := eq_true q907
     have p908 : 0 ≤ (x6_1 : Int) := oD_
     have q908 : x6_1 < (l1.length : Int) := oD_
     obtain ⟨ad908, e908, hx908_0⟩ := Kd.at_int HR1.out x6_1 p908 q908
     have hw908_0 := hx908_0
     cases e908
     replace hx908_0 := (HB.out.cell (World.block_lt_of_cell? w _ hx908_0)).trans hx908_0
     replace p908 := eq_true p908
     replace q908 := eq_true q908
     refine start_ (n := 14) (S := fun w' => w'.cell? (ad907.add (x6_1).toNat) = some (.int .i64 (rd l0 x6_1)) ∧ w'.cell? (ad908.add (x6_1).toNat) = some (.int .i64 (rd l1 x6_1))) (ds := []) (bb_ 14 0) (by kernel_rfl) rfl rfl ⟨((HB.out.cell (World.block_lt_of_cell? w _ hw907_0)).trans hw907_0), ((HB.out.cell (World.block_lt_of_cell? w _ hw908_0)).trans hw908_0)⟩ (fun hHeld => ?_); refine with_tabW spec_PolyAdd.tab5 spec_PolyAdd.bits5 (fun HT_ HW_ => ?_)
     generalize wr.drew = w14 at HO_5 HB hx907_0 hx908_0 hHeld ⊢
     refine pS_ 0 20 (bb_ 14 1) HT_.out ?_
     refine pS_ 1 21 (bb_ 14 3) HT_.out ?_
     refine pS_ 2 22 (bb_ 14 7) HT_.out ?_
     refine pS_ 3 23 (bb_ 14 15) HT_.out ?_
     refine pS_ 5 25 (bb_ 14 47) HT_.out ?_
     refine pS_ 6 26 (bb_ 14 111) HT_.out ?_
     refine pS_ 7 27 (bb_ 14 239) HT_.out ?_
     refine tS_ 4 24 (bb_ 14 255) (take_ofW HT_.out HW_.out (by kernel_rfl)) hHeld ?_
     refine tS_ 8 28 (bb_ 14 511) (take_ofW HT_.out HW_.out (by kernel_rfl)) hHeld ?_
     refine pS_ 9 29 (bb_ 14 1023) HT_.out ?_
     refine pS_ 10 30 (bb_ 14 2047) HT_.out ?_
     refine one_ (i := 11) (N := some 31) (bb_ 14 4095) rfl rfl (one_of HT_.out (by kernel_rfl)) (by decide) (fun K hK => ?_)
     refine value_ (w1 := ?_) (v := ?_) (by rfl) rfl ?_ ?_
     rotate_left 2
     ·go_simp
      constructor
      ·rfl
      ·rfl
     refine hK.out _ _ ⟨(World.cell?_alloc_lt _ _ _ (World.block_lt_of_cell? _ _ (((HB.out.cell (World.block_lt_of_cell? w _ hw907_0)).trans hw907_0)))).trans (((HB.out.cell (World.block_lt_of_cell? w _ hw907_0)).trans hw907_0)), (World.cell?_alloc_lt _ _ _ (World.block_lt_of_cell? _ _ (((HB.out.cell (World.block_lt_of_cell? w _ hw908_0)).trans hw908_0)))).trans (((HB.out.cell (World.block_lt_of_cell? w _ hw908_0)).trans hw908_0))⟩ (fun hHeld => ?_)
     clear hK K
     refine norm_ (a' := ?_) ?_ ?_
     rotate_left
     ·show Act.put _ (some 31) _ = _
      simp only [Act.put, List.setIfInBounds_toArray, List.set_cons_zero, List.set_cons_succ, i64_w, i32_w]
      rfl
     refine one_ (i := 12) (N := some 32) (bb_ 14 8191) rfl rfl (one_of HT_.out (by kernel_rfl)) (by decide) (fun K hK => ?_)
     refine Kd.R_append_step (Kd.int .i64) (w0 := w) w.heap.size (by rfl) (.tmp 20) (.tmp 31) 22 3 (.int .i64 0) 8 rfl Try.underlying22 info3 rfl (by decide) (by omega) u5 x5_1 (Int.tmod (wrap64 ((rd l0 x6_1) + (rd l1 x6_1))) 3329) [.int .i64 (Int.tmod (wrap64 ((rd l0 x6_1) + (rd l1 x6_1))) 3329)] (fun _ => True) (fun _ => False) rfl rfl ?aP (fun _ hk => hk.elim) ?aF ?aO ?aB ?aS ?aL ?_
     (case aP => exact rfl)
     (case aB => exact (hB_))
     (case aF => exact (fun _ _ => trivial))
     (case aO => exact (rR_ HO_5.out))
     (case aS => exact (below_size (hB_)))
     (case aL => have := LMc13.out; omega)
     intro v910 w15 ho hb hg hat
     rw [← Ny909.out] at ho
     have n_ := b_ (hb) <| c_ (ho)
     clear HB HO_5
     obtain ⟨HB, HO911⟩ := n_
     clear ho hb hg hat
     refine hK.out _ _ ⟨((HB.out.cell (World.block_lt_of_cell? w _ hw907_0)).trans hw907_0), ((HB.out.cell (World.block_lt_of_cell? w _ hw908_0)).trans hw908_0)⟩ (fun hHeld => ?_)
     clear hK K
     refine norm_ (a' := ?_) ?_ ?_
     rotate_left
     ·show Act.put _ (some 32) _ = _
      simp only [Act.put, List.setIfInBounds_toArray, List.set_cons_zero, List.set_cons_succ, i64_w, i32_w]
      rfl
     refine pS_ 13 5 (bb_ 14 16383) HT_.out ?_
     refine done_ (done_of HT_.out (by kernel_rfl)) ?_
     try go_wp2
     go_roundg k1
     case measure => have := HK1.out; omega
     case rel => exact ⟨(y909), (wrap64 (x6_1 + 1)), f0_, H', ⟨by have := HK1.out; omega⟩, ⟨rR_ HO911.out⟩, ⟨hB_⟩⟩
    ·replace c9 := Bool.eq_false_iff.mpr c9
     subst c9
     replace H := iF_ H
     obtain rfl := Option.some.inj H
     go_wp2_with (first | (go_at_call 86; (with_reducible refine (spec_PolyOk.calls k1 _ _ l0 true _ ?side1 ?side2 A6.out).mono ?_); (case side1 => exact cR_ (Kd.C_below HR0.out HB.out)); (case side2 => exact HC0.out); rintro e w' ⟨rfl, ⟨nd, rfl⟩⟩) | (go_at_call 86; (with_reducible refine (spec_PolyOk.calls k1 _ _ l1 false _ ?side1 ?side2 A8.out).mono ?_); (case side1 => exact cR_ (Kd.C_below HR1.out (hB_))); (case side2 => exact HC1.out); rintro e w' ⟨rfl, ⟨nd, rfl⟩⟩))
     go_ret
     exact ⟨_, f1_, rR_ HO_5.out, hB_⟩
   ·replace c7 := Bool.eq_false_iff.mpr c7
    subst c7
    replace H := iF_ H
    obtain rfl := Option.some.inj H
    go_wp2_with (first | (go_at_call 86; (with_reducible refine (spec_PolyOk.calls k1 _ _ l0 false _ ?side1 ?side2 A6.out).mono ?_); (case side1 => exact cR_ (Kd.C_below HR0.out HB.out)); (case side2 => exact HC0.out); rintro e w' ⟨rfl, ⟨nd, rfl⟩⟩))
    go_ret
    exact ⟨_, f1_, rR_ HO_5.out, hB_⟩

/-! ### spec_InvNtt: function 55 -/
mutual
def spec_InvNtt.l0 : Nat → List Int → Int → Int → Option (List Int)
 | 0, _, _, _ => none
 | k + 1, x3, x4, x5 => if x5 ≤ 128 then (spec_InvNtt.l1 k x3 x4 x5 0) else (spec_InvNtt.l3 k x3 0)
def spec_InvNtt.l1 : Nat → List Int → Int → Int → Int → Option (List Int)
 | 0, _, _, _, _ => none
 | k + 1, x3, x4, x5, x6 => if x6 < 256 then ((spec_Turn7.f k x4).bind fun t922 => ((spec_PowQ.f k 17 t922).bind fun t923 => (spec_InvNtt.l2 k x3 (wrap64 (x4 - 1)) x5 x6 t923 x6))) else (spec_InvNtt.l0 k x3 x4 (wrap64 (x5 * 2)))
def spec_InvNtt.l2 : Nat → List Int → Int → Int → Int → Int → Int → Option (List Int)
 | 0, _, _, _, _, _, _ => none
 | k + 1, x3, x4, x5, x6, x7, x8 => if x8 < (wrap64 (x6 + x5)) then (if 0 ≤ x8 then (if x8 < (x3.length : Int) then (if 0 ≤ (wrap64 (x8 + x5)) then (if (wrap64 (x8 + x5)) < (x3.length : Int) then ((some (x3.set (x8 : Int).toNat (Int.tmod (wrap64 ((rd x3 x8) + (rd x3 (wrap64 (x8 + x5))))) 3329) : List Int)).bind fun y926 => (spec_InvNtt.l2 k (y926.set ((wrap64 (x8 + x5)) : Int).toNat (Int.tmod (wrap64 (x7 * (wrap64 ((wrap64 ((rd y926 (wrap64 (x8 + x5))) - (rd x3 x8))) + 3329)))) 3329)) x4 x5 x6 x7 (wrap64 (x8 + 1)))) else (none)) else (none)) else (none)) else (none)) else (spec_InvNtt.l1 k x3 x4 x5 (wrap64 (x6 + (wrap64 (2 * x5)))))
def spec_InvNtt.l3 : Nat → List Int → Int → Option (List Int)
 | 0, _, _ => none
 | k + 1, x3, x10 => if x10 < 256 then (if 0 ≤ x10 then (if x10 < (x3.length : Int) then (spec_InvNtt.l3 k (x3.set (x10 : Int).toNat (Int.tmod (wrap64 ((rd x3 x10) * 3303)) 3329)) (wrap64 (x10 + 1))) else (none)) else (none)) else (some x3)
end
def spec_InvNtt.f (k : Nat) (l0 : List Int) : Option (List Int) := (spec_PolyOk.f k l0).bind fun t912 => (if t912 = true then ((some (([] : List Int) : List Int)).bind fun y916 => (if y916.length + l0.length < 17592186044416 then (spec_InvNtt.l0 k (y916 ++ l0) 127 2) else (none))) else (some (([] : List Int))))
theorem spec_InvNtt.mono_l : ∀ k, (∀ y0 y1 y2, LeO (spec_InvNtt.l0 k y0 y1 y2) (spec_InvNtt.l0 (k + 1) y0 y1 y2)) ∧ (∀ y0 y1 y2 y3, LeO (spec_InvNtt.l1 k y0 y1 y2 y3) (spec_InvNtt.l1 (k + 1) y0 y1 y2 y3)) ∧ (∀ y0 y1 y2 y3 y4 y5, LeO (spec_InvNtt.l2 k y0 y1 y2 y3 y4 y5) (spec_InvNtt.l2 (k + 1) y0 y1 y2 y3 y4 y5)) ∧ (∀ y0 y1, LeO (spec_InvNtt.l3 k y0 y1) (spec_InvNtt.l3 (k + 1) y0 y1))
 | 0 => ⟨fun _ _ _ r h => by simp [spec_InvNtt.l0] at h, fun _ _ _ _ r h => by simp [spec_InvNtt.l1] at h, fun _ _ _ _ _ _ r h => by simp [spec_InvNtt.l2] at h, fun _ _ r h => by simp [spec_InvNtt.l3] at h⟩
 | k + 1 => by
  obtain ⟨ih0, ih1, ih2, ih3⟩ := spec_InvNtt.mono_l k
  refine ⟨?_, ?_, ?_, ?_⟩ <;> (intros; (first | unfold spec_InvNtt.l0 | unfold spec_InvNtt.l1 | unfold spec_InvNtt.l2 | unfold spec_InvNtt.l3); exact o7_ ih0 ih1 ih2 ih3 spec_PolyOk.mono spec_PowQ.mono spec_Turn7.mono)
theorem spec_InvNtt.mono : ∀ a0 k, LeO (spec_InvNtt.f k a0) (spec_InvNtt.f (k + 1) a0) := by
 intro a0 k
 obtain ⟨ih0, ih1, ih2, ih3⟩ := spec_InvNtt.mono_l k
 unfold spec_InvNtt.f
 exact o7_ ih0 ih1 ih2 ih3 spec_PolyOk.mono spec_PowQ.mono spec_Turn7.mono
theorem spec_InvNtt.calls (k : Nat) (A0 : Option Addr) (c0 : Nat) (l0 : List Int) (r : List Int) (w : World) (hr0 : Kd.C (Kd.int .i64) w A0 l0.length l0) (hc0 : l0.length ≤ c0) (h : spec_InvNtt.f k l0 = some r) :
  Calls Try.prog 55 #[.slice A0 l0.length c0] w fun e w' => ∃ v0_ : Value, e = .returned (v0_) ∧ Kd.R (Kd.int .i64) 3 w' w.heap.size (fun _ => True) v0_ r ∧ Below w.heap.size w w' := by
 have HR0 := Aside0.mk hr0
 have HC0 := Aside0.mk hc0
 clear hr0 hc0
 have HB := Aside0.mk (Below.refl w.heap.size w)
 delta spec_InvNtt.f at h
 have H := h
 clear h
 obtain ⟨t912, A2, H⟩ := bN_ H
 by_cases c3 : t912 = true
 ·subst c3
  replace H := iT_ H
  obtain ⟨y916, hy916⟩ : ∃ y_ : List Int, y_ = (([] : List Int)) := ⟨_, rfl⟩
  first | replace H := yb_ hy916 H | rw [← hy916] at H
  have Ny916 := Aside0.mk hy916
  clear hy916
  obtain ⟨c4, H⟩ := iN_ H
  have LMc4 := Aside0.mk c4
  clear c4
  obtain ⟨y919, hy919⟩ : ∃ y_ : List Int, y_ = (y916 ++ l0) := ⟨_, rfl⟩
  first | replace H := yb_ hy919 H | rw [← hy919] at H
  have Ny919 := Aside0.mk hy919
  clear hy919
  have H' := Aside0.mk H
  clear H
  go_enter Try.func55, Try.ntmps55
  go_wp2_with (first | ((with_reducible refine gate_callee (f := 86) rfl ?_); refine goesL_ (some 12) rfl rfl Try.func86 (by kernel_rfl) rfl #[.slice A0 l0.length c0] rfl aM_ ?_; (with_reducible refine (spec_PolyOk.calls k _ _ l0 true _ ?side1 ?side2 A2.out).mono ?_); (case side1 => exact cR_ HR0.out); (case side2 => exact HC0.out); rintro e w' ⟨rfl, ⟨nd, rfl⟩⟩; refine ⟨_, rfl, ?_⟩) | ((with_reducible refine gate_dst (N := 15) rfl ?_); refine Kd.R_lit (Kd.int .i64) _ 3 ?hg (N := 15) ?hd (xs := ([] : List Int)) (inner := []) (ok := fun _ => True) (okp := fun _ => True) ?hr ?hp (fun _ hk => hk) trivial (Below.refl _ _) (Nat.le_refl _) (by simp) ?_; (case hd => rfl); (case hg => rfl); (case hr => first | (go_simp; done) | (go_simp; rfl)); (case hp => exact (Reps.none _ _)); intro v917 w5 ho6 hb hg_ hnew_; clear hg_ hnew_; (first | rw [← Ny916.out] at ho6 | (simp only [Int.reduceToNat] at ho6; rw [← Ny916.out] at ho6)); have n_ := b_ (Kd.R_lower ho6 (below_size (hB_))) <| c_ (below_step (hB_) hb); clear HB; obtain ⟨HO918, HB⟩ := n_; clear hb ho6) | ((with_reducible refine gate_builtin (b := .append) (xs := #[.tmp 15, .tmp 16]) rfl ?_); at_builtin; refine Kd.R_append_rows (Kd.int .i64) (w0 := w) w.heap.size rfl (.tmp 15) (.tmp 16) 22 3 (.int .i64 0) 8 rfl Try.underlying22 info3 rfl (by decide) (by omega) v917 y916 l0 _ _ _ (fun _ => True) (fun _ => False) rfl rfl ?aO ?aR (fun _ _ h => h) (fun _ h => h.elim) ?aF ?aB ?aS ?aL ?_; (case aR => exact cR_ (Kd.C_below HR0.out HB.out)); (case aB => exact (hB_)); (case aF => exact (fun _ _ => trivial)); (case aO => exact (rR_ HO918.out)); (case aS => exact (below_size (hB_))); (case aL => have := LMc4.out; omega); intro v920 w7 ho hb hg hat; rw [← Ny919.out] at ho; have n_ := b_ (hb) <| c_ (ho); clear HO918 HB; obtain ⟨HB, HO921⟩ := n_; clear ho hb hg hat))
  go_loopg [4, 5] k (fun kq v4 v5 w' => ∃ (x3_1 : List Int) (x4_1 : Int) (x5_1 : Int), v4 = .int .i64 x4_1 ∧ v5 = .int .i64 x5_1 ∧ Aside0 (spec_InvNtt.l0 kq x3_1 x4_1 x5_1 = some r) ∧ Aside0 (kq ≤ k) ∧ Aside0 (Kd.R (Kd.int .i64) 3 w' w.heap.size (fun _ => True) v920 x3_1) ∧ Aside0 (Below w.heap.size w w'))
  case atStart => exact ⟨(y919), (127), (2), f0_, f0_, H', ⟨Nat.le_refl _⟩, ⟨rR_ HO921.out⟩, ⟨hB_⟩⟩
  case round =>
   clear H'
   obtain ⟨x3_1, x4_1, x5_1, rfl, rfl, HA, HK1, HO_3, HB⟩ := hrel
   cases gk with
   | zero => exact absurd HA.out (by simp [spec_InvNtt.l0])
   | succ k1 =>
    have H := HA.out
    clear HA
    simp only [spec_InvNtt.l0] at H
    by_cases c8 : x5_1 ≤ 128
    rotate_left
    ·rw [if_neg c8] at H
     have c8b0 := decide_eq_false c8
     clear c8
     have H' := Aside0.mk H
     clear H
     go_wp2
     go_loopg [10] k1 (fun kq v10 w' => ∃ (x3_2 : List Int) (x10_2 : Int), v10 = .int .i64 x10_2 ∧ Aside0 (spec_InvNtt.l3 kq x3_2 x10_2 = some r) ∧ Aside0 (kq ≤ k1) ∧ Aside0 (Kd.R (Kd.int .i64) 3 w' w.heap.size (fun _ => True) v920 x3_2) ∧ Aside0 (Below w.heap.size w w'))
     case atStart => exact ⟨(x3_1), (0), f0_, H', ⟨Nat.le_refl _⟩, ⟨rR_ HO_3.out⟩, ⟨hB_⟩⟩
     case round =>
      clear H'
      obtain ⟨x3_2, x10_2, rfl, HA, HK2, HO_3, HB⟩ := hrel
      cases gk with
      | zero => exact absurd HA.out (by simp [spec_InvNtt.l3])
      | succ k2 =>
       have H := HA.out
       clear HA
       simp only [spec_InvNtt.l3] at H
       by_cases c25 : x10_2 < 256
       rotate_left
       ·rw [if_neg c25] at H
        have c25b0 := decide_eq_false c25
        clear c25
        obtain rfl := Option.some.inj H
        go_wp2
        go_ret
        exact ⟨_, f1_, rR_ HO_3.out, hB_⟩
       rw [if_pos c25] at H
       have c25b0 := decide_eq_true c25
       clear c25
       obtain ⟨c26b0, H⟩ := iD_ H
       obtain ⟨c27b0, H⟩ := iD_ H
       obtain ⟨y930, hy930⟩ : ∃ y_ : List Int, y_ = (x3_2.set (x10_2 : Int).toNat (Int.tmod (wrap64 ((rd x3_2 x10_2) * 3303)) 3329)) := ⟨_, rfl⟩
       first | replace H := yb_ hy930 H | rw [← hy930] at H
       have Ny930 := Aside0.mk hy930
       clear hy930
       have H' := Aside0.mk H
       clear H
       obtain ⟨Ao29, co29, eo29⟩ := Kd.R_slice HO_3.out
       subst eo29
       have p929 : 0 ≤ (x10_2 : Int) := oD_
       have q929 : x10_2 < (x3_2.length : Int) := oD_
       obtain ⟨ad929, e929, hx929_0⟩ := Kd.at_int (Kd.R_reads' HO_3.out).2.2 x10_2 p929 q929
       cases e929
       replace p929 := eq_true p929
       replace q929 := eq_true q929
       have p28 : 0 ≤ (x10_2 : Int) := oD_
       have q28 : (x10_2 : Int) < ((x3_2.length : Int) : Int) := oD_
       obtain ⟨go28, co28, eo28, gb28, gl28, cl28, HG28⟩ := Kd.R_form HO_3.out (by omega)
       (first | cases eo28 | (injection eo28 with ea_ en_ ec_; (first | subst ea_ | (injection ea_ with ea_; subst ea_)); subst ec_; clear en_))
       have GB28 := Aside0.mk gb28
       have GG28 := Aside0.mk HG28
       clear gb28 gl28 HG28
       (first | simp only [add_plain] at hx929_0 | skip)
       obtain ⟨hx28_0, hf28_0⟩ := Kd.R_celln 0 HO_3.out (x10_2 : Int) p28 q28
       replace p28 := eq_true p28
       replace q28 := eq_true q28
       have HP30 := Kd.R_putg HO_3.out (x10_2 : Int) (Int.tmod (wrap64 ((rd x3_2 x10_2) * 3303)) 3329)
       go_wp2_with (first | ((with_reducible refine gate_store (t := 3) (p := 86) rfl ?_); refine store_event (t := 3) (p := 86) (v := ?vo_w31) (w1 := (wr.setCell ⟨go28, (x10_2 : Int).toNat, none⟩ (.int .i64 (Int.tmod (wrap64 ((rd x3_2 x10_2) * 3303)) 3329)))) ?hg ?ho ?hn ?hr ?_; (case ho => rfl); (case hg => rfl); (case hn => rfl); (case hr => first | (go_simp; done) | (go_simp; rfl)); intro w31 hw; have hg : wr.grownBy w31 (some go28) := (by rw [hw]; exact HP30.2); have hp_ : Kd.R (Kd.int .i64) 3 w31 w.heap.size (fun _ => True) (.slice (some ⟨go28, 0, none⟩) x3_2.length co29) y930 := (by rw [hw, Ny930.out]; exact HP30.1); clear HP30; have n_ := b_ (hp_) <| c_ (by rw [hw]; exact below_set (HB.out) GB28.out : Below w.heap.size w w31); clear HO_3 HB; obtain ⟨HO_3, HB⟩ := n_; clear hg hw hp_))
       go_roundg k2
       case measure => have := HK1.out; have := HK2.out; omega
       case rel => exact ⟨(y930), (wrap64 (x10_2 + 1)), f0_, H', ⟨by have := HK1.out; have := HK2.out; omega⟩, ⟨rR_ HO_3.out⟩, ⟨hB_⟩⟩
    rw [if_pos c8] at H
    have c8b0 := decide_eq_true c8
    clear c8
    have H' := Aside0.mk H
    clear H
    go_wp2
    go_loopg [4, 6] k1 (fun kq v4 v6 w' => ∃ (x3_2 : List Int) (x4_2 : Int) (x6_2 : Int), v4 = .int .i64 x4_2 ∧ v6 = .int .i64 x6_2 ∧ Aside0 (spec_InvNtt.l1 kq x3_2 x4_2 x5_1 x6_2 = some r) ∧ Aside0 (kq ≤ k1) ∧ Aside0 (Kd.R (Kd.int .i64) 3 w' w.heap.size (fun _ => True) v920 x3_2) ∧ Aside0 (Below w.heap.size w w'))
    case atStart => exact ⟨(x3_1), (x4_1), (0), f0_, f0_, H', ⟨Nat.le_refl _⟩, ⟨rR_ HO_3.out⟩, ⟨hB_⟩⟩
    case round =>
     clear H'
     obtain ⟨x3_2, x4_2, x6_2, rfl, rfl, HA, HK2, HO_3, HB⟩ := hrel
     cases gk with
     | zero => exact absurd HA.out (by simp [spec_InvNtt.l1])
     | succ k2 =>
      have H := HA.out
      clear HA
      simp only [spec_InvNtt.l1] at H
      by_cases c9 : x6_2 < 256
      rotate_left
      ·rw [if_neg c9] at H
       have c9b0 := decide_eq_false c9
       clear c9
       have H' := Aside0.mk H
       clear H
       go_wp2
       go_roundg k2
       case measure => have := HK1.out; have := HK2.out; omega
       case rel => exact ⟨(x3_2), (x4_2), (wrap64 (x5_1 * 2)), f0_, f0_, H', ⟨by have := HK1.out; have := HK2.out; omega⟩, ⟨rR_ HO_3.out⟩, ⟨hB_⟩⟩
      rw [if_pos c9] at H
      have c9b0 := decide_eq_true c9
      clear c9
      obtain ⟨t922, A10, H⟩ := bN_ H
      obtain ⟨t923, A11, H⟩ := bN_ H
      have H' := Aside0.mk H
      clear H
      go_wp2_with (first | ((with_reducible refine gate_callee (f := 88) rfl ?_); refine goesL_ (some 29) rfl rfl Try.func88 (by kernel_rfl) rfl #[.int .i64 x4_2] rfl aM_ ?_; (with_reducible refine (spec_Turn7.calls k2 x4_2 t922 _ A10.out).mono ?_); rintro e w' ⟨rfl, ⟨nd, rfl⟩⟩; refine ⟨_, rfl, ?_⟩) | ((with_reducible refine gate_callee (f := 87) rfl ?_); refine goesL_ (some 30) rfl rfl Try.func87 (by kernel_rfl) rfl #[.int .i64 17, .int .i64 t922] rfl aM_ ?_; (with_reducible refine (spec_PowQ.calls k2 17 t922 t923 _ A11.out).mono ?_); rintro e w' ⟨rfl, ⟨nd, rfl⟩⟩; refine ⟨_, rfl, ?_⟩))
      go_loopg [8] k2 (fun kq v8 w' => ∃ (x3_3 : List Int) (x8_3 : Int), v8 = .int .i64 x8_3 ∧ Aside0 (spec_InvNtt.l2 kq x3_3 (wrap64 (x4_2 - 1)) x5_1 x6_2 t923 x8_3 = some r) ∧ Aside0 (kq ≤ k2) ∧ Aside0 (Kd.R (Kd.int .i64) 3 w' w.heap.size (fun _ => True) v920 x3_3) ∧ Aside0 (Below w.heap.size w w'))
      case atStart => exact ⟨(x3_2), (x6_2), f0_, H', ⟨Nat.le_refl _⟩, ⟨rR_ HO_3.out⟩, ⟨hB_⟩⟩
      case round =>
       clear H'
       obtain ⟨x3_3, x8_3, rfl, HA, HK3, HO_3, HB⟩ := hrel
       cases gk with
       | zero => exact absurd HA.out (by simp [spec_InvNtt.l2])
       | succ k3 =>
        have H := HA.out
        clear HA
        simp only [spec_InvNtt.l2] at H
        by_cases c12 : x8_3 < (wrap64 (x6_2 + x5_1))
        rotate_left
        ·rw [if_neg c12] at H
         have c12b0 := decide_eq_false c12
         clear c12
         have H' := Aside0.mk H
         clear H
         go_wp2
         go_roundg k3
         case measure => have := HK1.out; have := HK2.out; have := HK3.out; omega
         case rel => exact ⟨(x3_3), ((wrap64 (x4_2 - 1))), (wrap64 (x6_2 + (wrap64 (2 * x5_1)))), f0_, f0_, H', ⟨by have := HK1.out; have := HK2.out; have := HK3.out; omega⟩, ⟨rR_ HO_3.out⟩, ⟨hB_⟩⟩
        rw [if_pos c12] at H
        have c12b0 := decide_eq_true c12
        clear c12
        obtain ⟨c13b0, H⟩ := iD_ H
        obtain ⟨c14b0, H⟩ := iD_ H
        obtain ⟨ji15, hji15⟩ : ∃ j_ : Int, (wrap64 (x8_3 + x5_1)) = j_ := ⟨_, rfl⟩
        first | rw [hji15] at H | simp only [hji15] at H
        have hji15w : (IntKind.i64.wrap (x8_3 + x5_1)) = ji15 := (i64_w _).trans hji15
        obtain ⟨c16b0, H⟩ := iD_ H
        obtain ⟨c17b0, H⟩ := iD_ H
        obtain ⟨y926, hy926⟩ : ∃ y_ : List Int, y_ = (x3_3.set (x8_3 : Int).toNat (Int.tmod (wrap64 ((rd x3_3 x8_3) + (rd x3_3 (ji15)))) 3329)) := ⟨_, rfl⟩
        first | replace H := yb_ hy926 H | rw [← hy926] at H
        have Ny926 := Aside0.mk hy926
        clear hy926
        obtain ⟨y928, hy928⟩ : ∃ y_ : List Int, y_ = (y926.set ((ji15) : Int).toNat (Int.tmod (wrap64 (t923 * (wrap64 ((wrap64 ((rd y926 (ji15)) - (rd x3_3 x8_3))) + 3329)))) 3329)) := ⟨_, rfl⟩
        first | replace H := yb_ hy928 H | rw [← hy928] at H
        have Ny928 := Aside0.mk hy928
        clear hy928
        have H' := Aside0.mk H
        clear H
        obtain ⟨Ao20, co20, eo20⟩ := Kd.R_slice HO_3.out
        subst eo20
        have p924 : 0 ≤ (x8_3 : Int) := oD_
        have q924 : x8_3 < (x3_3.length : Int) := oD_
        obtain ⟨ad924, e924, hx924_0⟩ := Kd.at_int (Kd.R_reads' HO_3.out).2.2 x8_3 p924 q924
        cases e924
        replace p924 := eq_true p924
        replace q924 := eq_true q924
        have p925 : 0 ≤ ((ji15) : Int) := oD_
        have q925 : (ji15) < (x3_3.length : Int) := oD_
        obtain ⟨ad925, e925, hx925_0⟩ := Kd.at_int (Kd.R_reads' HO_3.out).2.2 (ji15) p925 q925
        obtain rfl : ad924 = ad925 := (by injection e925)
        replace p925 := eq_true p925
        replace q925 := eq_true q925
        have p18 : 0 ≤ (x8_3 : Int) := oD_
        have q18 : (x8_3 : Int) < ((x3_3.length : Int) : Int) := oD_
        obtain ⟨go18, co18, eo18, gb18, gl18, cl18, HG18⟩ := Kd.R_form HO_3.out (by omega)
        (first | cases eo18 | (injection eo18 with ea_ en_ ec_; (first | subst ea_ | (injection ea_ with ea_; subst ea_)); subst ec_; clear en_))
        have GB18 := Aside0.mk gb18
        have GG18 := Aside0.mk HG18
        clear gb18 gl18 HG18
        (first | simp only [add_plain] at hx924_0 | skip)
        (first | simp only [add_plain] at hx925_0 | skip)
        obtain ⟨hx18_0, hf18_0⟩ := Kd.R_celln 0 HO_3.out (x8_3 : Int) p18 q18
        replace p18 := eq_true p18
        replace q18 := eq_true q18
        have HP21 := Kd.R_putg HO_3.out (x8_3 : Int) (Int.tmod (wrap64 ((rd x3_3 x8_3) + (rd x3_3 (ji15)))) 3329)
        go_wp2_with (first | ((with_reducible refine gate_store (t := 3) (p := 56) rfl ?_); refine store_event (t := 3) (p := 56) (v := ?vo_w22) (w1 := (wr.setCell ⟨go18, (x8_3 : Int).toNat, none⟩ (.int .i64 (Int.tmod (wrap64 ((rd x3_3 x8_3) + (rd x3_3 (ji15)))) 3329)))) ?hg ?ho ?hn ?hr ?_; (case ho => rfl); (case hg => rfl); (case hn => rfl); (case hr => first | (go_simp; done) | (go_simp; rfl)); intro w22 hw; have hg : wr.grownBy w22 (some go18) := (by rw [hw]; exact HP21.2); have hp_ : Kd.R (Kd.int .i64) 3 w22 w.heap.size (fun _ => True) (.slice (some ⟨go18, 0, none⟩) x3_3.length co20) y926 := (by rw [hw, Ny926.out]; exact HP21.1); clear HP21; have n_ := b_ (hp_) <| c_ (by rw [hw]; exact below_set (HB.out) GB18.out : Below w.heap.size w w22); clear HO_3 HB; obtain ⟨HO_3, HB⟩ := n_; clear hg hw hp_; have p927 : 0 ≤ ((ji15) : Int) := oD_; have q927 : (ji15) < (y926.length : Int) := (by have h_ : ((ji15) : Int) < ((x3_3.length : Int) : Int) := oD_; first | (have e_ := (Kd.R_reads' HO_3.out).1; omega) | simpa only [Ny926.out, List.length_set] using h_); have ql927 : (((ji15) : Int) < ((x3_3.length : Int) : Int)) = True := eq_true oD_; obtain ⟨ad927, e927, hx927_0⟩ := Kd.at_int (Kd.R_reads' HO_3.out).2.2 (ji15) p927 q927; obtain rfl : (⟨go18, 0, none⟩ : Addr) = ad927 := (by injection e927); (first | simp only [add_plain] at hx927_0 | simp only [add_at] at hx927_0 | simp only [Addr.add, Nat.zero_add] at hx927_0 | skip); replace p927 := eq_true p927; replace q927 := eq_true q927; have p19 : 0 ≤ ((ji15) : Int) := oD_; have q19 : ((ji15) : Int) < ((x3_3.length : Int) : Int) := oD_; obtain ⟨hx19_0, hf19_0⟩ := Kd.R_celln 0 HO_3.out ((ji15) : Int) p19 q19; replace p19 := eq_true p19; replace q19 := eq_true q19; obtain ⟨hy23_, hz23_⟩ := Kd.R_celln 0 HO_3.out ((ji15) : Int) oD_ oD_; have HP23 := Kd.R_putg HO_3.out ((ji15) : Int) (Int.tmod (wrap64 (t923 * (wrap64 ((wrap64 ((rd y926 (ji15)) - (rd x3_3 x8_3))) + 3329)))) 3329)) | ((with_reducible refine gate_store (t := 3) (p := 73) rfl ?_); refine store_event (t := 3) (p := 73) (v := ?vo_w24) (w1 := (w22.setCell ⟨go18, ((ji15) : Int).toNat, none⟩ (.int .i64 (Int.tmod (wrap64 (t923 * (wrap64 ((wrap64 ((rd y926 (ji15)) - (rd x3_3 x8_3))) + 3329)))) 3329)))) ?hg ?ho ?hn ?hr ?_; (case ho => rfl); (case hg => rfl); (case hn => rfl); (case hr => first | (go_simp; done) | (go_simp; rfl)); intro w24 hw; have hg : w22.grownBy w24 (some go18) := (by rw [hw]; exact HP23.2); have hp_ : Kd.R (Kd.int .i64) 3 w24 w.heap.size (fun _ => True) (.slice (some ⟨go18, 0, none⟩) x3_3.length co20) y928 := (by rw [hw, Ny928.out]; exact HP23.1); clear HP23; have n_ := b_ (hp_) <| c_ (by rw [hw]; exact below_set (HB.out) GB18.out : Below w.heap.size w w24); clear HO_3 HB; obtain ⟨HO_3, HB⟩ := n_; clear hg hw hp_))
        go_roundg k3
        case measure => have := HK1.out; have := HK2.out; have := HK3.out; omega
        case rel => exact ⟨(y928), (wrap64 (x8_3 + 1)), f0_, H', ⟨by have := HK1.out; have := HK2.out; have := HK3.out; omega⟩, ⟨rR_ HO_3.out⟩, ⟨hB_⟩⟩
 ·replace c3 := Bool.eq_false_iff.mpr c3
  subst c3
  replace H := iF_ H
  obtain ⟨y913, hy913⟩ : ∃ y_ : List Int, y_ = (([] : List Int)) := ⟨_, rfl⟩
  first | replace H := yb_ hy913 H | rw [← hy913] at H
  have Ny913 := Aside0.mk hy913
  clear hy913
  obtain rfl := Option.some.inj H
  go_enter Try.func55, Try.ntmps55
  go_wp2_with (first | ((with_reducible refine gate_callee (f := 86) rfl ?_); refine goesL_ (some 12) rfl rfl Try.func86 (by kernel_rfl) rfl #[.slice A0 l0.length c0] rfl aM_ ?_; (with_reducible refine (spec_PolyOk.calls k _ _ l0 false _ ?side1 ?side2 A2.out).mono ?_); (case side1 => exact cR_ HR0.out); (case side2 => exact HC0.out); rintro e w' ⟨rfl, ⟨nd, rfl⟩⟩; refine ⟨_, rfl, ?_⟩) | ((with_reducible refine gate_dst (N := 14) rfl ?_); refine Kd.R_lit (Kd.int .i64) _ 3 ?hg (N := 14) ?hd (xs := ([] : List Int)) (inner := []) (ok := fun _ => True) (okp := fun _ => True) ?hr ?hp (fun _ hk => hk) trivial (Below.refl _ _) (Nat.le_refl _) (by simp) ?_; (case hd => rfl); (case hg => rfl); (case hr => first | (go_simp; done) | (go_simp; rfl)); (case hp => exact (Reps.none _ _)); intro v914 w32 ho33 hb hg_ hnew_; clear hg_ hnew_; (first | rw [← Ny913.out] at ho33 | (simp only [Int.reduceToNat] at ho33; rw [← Ny913.out] at ho33)); have n_ := b_ (Kd.R_lower ho33 (below_size (hB_))) <| c_ (below_step (hB_) hb); clear HB; obtain ⟨HO915, HB⟩ := n_; clear hb ho33))
  go_ret
  exact ⟨_, f1_, rR_ HO915.out, hB_⟩

/-! ### spec_MulNtt: function 89 -/
mutual
def spec_MulNtt.j0 : Nat → List Int → List Int → List Int → Bool → Option (List Int)
 | 0, _, _, _, _ => none
 | k + 1, x0, x1, x5, x17 => if x17 = true then (some x5) else (spec_MulNtt.l0 k x0 x1 x5 0)
def spec_MulNtt.l0 : Nat → List Int → List Int → List Int → Int → Option (List Int)
 | 0, _, _, _, _ => none
 | k + 1, x0, x1, x5, x6 => if x6 < 128 then ((spec_Turn7.f k x6).bind fun t936 => ((spec_PowQ.f k 17 (wrap64 ((wrap64 (2 * t936)) + 1))).bind fun t937 => (if 0 ≤ (wrap64 ((wrap64 (2 * x6)) + 1)) then (if (wrap64 ((wrap64 (2 * x6)) + 1)) < (x0.length : Int) then (if (wrap64 ((wrap64 (2 * x6)) + 1)) < (x1.length : Int) then (if 0 ≤ (wrap64 (2 * x6)) then (if (wrap64 (2 * x6)) < (x0.length : Int) then (if (wrap64 (2 * x6)) < (x1.length : Int) then ((some (([Int.tmod (wrap64 ((wrap64 ((rd x0 (wrap64 (2 * x6))) * (rd x1 (wrap64 (2 * x6))))) + (wrap64 ((Int.tmod (wrap64 ((rd x0 (wrap64 ((wrap64 (2 * x6)) + 1))) * (rd x1 (wrap64 ((wrap64 (2 * x6)) + 1))))) 3329) * t937)))) 3329, Int.tmod (wrap64 ((wrap64 ((rd x0 (wrap64 (2 * x6))) * (rd x1 (wrap64 ((wrap64 (2 * x6)) + 1))))) + (wrap64 ((rd x0 (wrap64 ((wrap64 (2 * x6)) + 1))) * (rd x1 (wrap64 (2 * x6))))))) 3329] : List Int) : List Int)).bind fun y946 => (if x5.length + y946.length < 17592186044416 then (spec_MulNtt.l0 k x0 x1 (x5 ++ y946) (wrap64 (x6 + 1))) else (none))) else (none)) else (none)) else (none)) else (none)) else (none)) else (none)))) else (some x5)
end
def spec_MulNtt.f (k : Nat) (l0 : List Int) (l1 : List Int) : Option (List Int) := (some (([] : List Int) : List Int)).bind fun y931 => ((spec_PolyOk.f k l0).bind fun t934 => (if t934 = true then ((spec_PolyOk.f k l1).bind fun t935 => (spec_MulNtt.j0 k l0 l1 y931 (!t935))) else (spec_MulNtt.j0 k l0 l1 y931 true)))
theorem spec_MulNtt.mono_l : ∀ k, (∀ y0 y1 y2 y3, LeO (spec_MulNtt.j0 k y0 y1 y2 y3) (spec_MulNtt.j0 (k + 1) y0 y1 y2 y3)) ∧ (∀ y0 y1 y2 y3, LeO (spec_MulNtt.l0 k y0 y1 y2 y3) (spec_MulNtt.l0 (k + 1) y0 y1 y2 y3))
 | 0 => ⟨fun _ _ _ _ r h => by simp [spec_MulNtt.j0] at h, fun _ _ _ _ r h => by simp [spec_MulNtt.l0] at h⟩
 | k + 1 => by
  obtain ⟨ih0, ih1⟩ := spec_MulNtt.mono_l k
  refine ⟨?_, ?_⟩ <;> (intros; (first | unfold spec_MulNtt.j0 | unfold spec_MulNtt.l0); exact o5_ ih0 ih1 spec_PolyOk.mono spec_PowQ.mono spec_Turn7.mono)
theorem spec_MulNtt.mono : ∀ a0 a1 k, LeO (spec_MulNtt.f k a0 a1) (spec_MulNtt.f (k + 1) a0 a1) := by
 intro a0 a1 k
 obtain ⟨ih0, ih1⟩ := spec_MulNtt.mono_l k
 unfold spec_MulNtt.f
 exact o5_ ih0 ih1 spec_PolyOk.mono spec_PowQ.mono spec_Turn7.mono
def spec_MulNtt.T8 : Bool × List (List Nat × List Nat) := (true, [([], []), ([], []), ([1], [1]), ([2], [2]), ([0, 3], [0, 3]), ([4], [4]), ([], []), ([], []), ([7], [7]), ([8], [8]), ([6, 9], [6, 9]), ([10], [10]), ([5, 11], [5, 11]), ([12], [12]), ([], []), ([13, 14], [13, 14]), ([15, 0, 1, 2, 3, 4, 5, 6, 7, 8, 9, 10, 11, 12, 13, 14, 15], [15])])
def spec_MulNtt.B8 : List Nat := [0, 0, 2, 6, 15, 31, 0, 0, 128, 384, 960, 1984, 4095, 8191, 0, 32767, 65535]
theorem spec_MulNtt.tab8 : rtab .any (opsOf Try.f89 8) = spec_MulNtt.T8 := by kernel_rfl
theorem spec_MulNtt.bits8 : waitsOk spec_MulNtt.T8.2 spec_MulNtt.B8 = true := by kernel_rfl
def spec_MulNtt.T9 : Bool × List (List Nat × List Nat) := (true, [([], []), ([], []), ([], []), ([2], [2]), ([1, 3], [1, 3]), ([4], [4]), ([], []), ([], []), ([7], [7]), ([6, 8], [6, 8]), ([9], [9]), ([5, 10], [5, 10]), ([], []), ([11, 12], [11, 12]), ([13], [13]), ([], []), ([], []), ([16], [16]), ([15, 17], [15, 17]), ([18], [18]), ([], []), ([], []), ([21], [21]), ([22], [22]), ([20, 23], [20, 23]), ([24], [24]), ([19, 25], [19, 25]), ([], []), ([], []), ([28], [28]), ([29], [29]), ([27, 30], [27, 30]), ([31], [31]), ([], []), ([], []), ([34], [34]), ([33, 35], [33, 35]), ([36], [36]), ([32, 37], [32, 37]), ([26, 38], [26, 38]), ([39], [39]), ([14, 40], [14, 40]), ([0, 41], [0, 41]), ([42, 42, 0, 1, 2, 3, 4, 5, 6, 7, 8, 9, 10, 11, 12, 13, 14, 15, 16, 17, 18, 19, 20, 21, 22, 23, 24, 25, 26, 27, 28, 29, 30, 31, 32, 33, 34, 35, 36, 37, 38, 39, 40, 41, 42], [0, 42])])
def spec_MulNtt.B9 : List Nat := [0, 0, 0, 4, 14, 30, 0, 0, 128, 448, 960, 2046, 0, 8190, 16382, 0, 0, 65536, 229376, 491520, 0, 0, 2097152, 6291456, 15728640, 32505856, 67076096, 0, 0, 268435456, 805306368, 2013265920, 4160749568, 0, 0, 17179869184, 60129542144, 128849018880, 274743689216, 549755781120, 1099511595008, 2199023255550, 4398046511103, 8796093022207]
theorem spec_MulNtt.tab9 : rtab .any (opsOf Try.f89 9) = spec_MulNtt.T9 := by kernel_rfl
theorem spec_MulNtt.bits9 : waitsOk spec_MulNtt.T9.2 spec_MulNtt.B9 = true := by kernel_rfl
theorem spec_MulNtt.calls (k : Nat) (A0 : Option Addr) (c0 : Nat) (l0 : List Int) (A1 : Option Addr) (c1 : Nat) (l1 : List Int) (r : List Int) (w : World) (hr0 : Kd.C (Kd.int .i64) w A0 l0.length l0) (hc0 : l0.length ≤ c0) (hr1 : Kd.C (Kd.int .i64) w A1 l1.length l1) (hc1 : l1.length ≤ c1) (h : spec_MulNtt.f k l0 l1 = some r) :
  Calls Try.prog 89 #[.slice A0 l0.length c0, .slice A1 l1.length c1] w fun e w' => ∃ v0_ : Value, e = .returned (v0_) ∧ Kd.R (Kd.int .i64) 3 w' w.heap.size (fun _ => True) v0_ r ∧ Below w.heap.size w w' := by
 have HR0 := Aside0.mk hr0
 have HC0 := Aside0.mk hc0
 clear hr0 hc0
 have HR1 := Aside0.mk hr1
 have HC1 := Aside0.mk hc1
 clear hr1 hc1
 have HB := Aside0.mk (Below.refl w.heap.size w)
 delta spec_MulNtt.f at h
 have H := h
 clear h
 obtain ⟨y931, hy931⟩ : ∃ y_ : List Int, y_ = (([] : List Int)) := ⟨_, rfl⟩
 first | replace H := yb_ hy931 H | rw [← hy931] at H
 have Ny931 := Aside0.mk hy931
 clear hy931
 have HC3 := Aside0.mk H
 clear H
 go_enter Try.func89, Try.ntmps89
 go_upto_region 2 with (first | ((with_reducible refine gate_dst (N := 9) rfl ?_); refine Kd.R_lit (Kd.int .i64) _ 3 ?hg (N := 9) ?hd (xs := ([] : List Int)) (inner := []) (ok := fun _ => True) (okp := fun _ => True) ?hr ?hp (fun _ hk => hk) trivial (Below.refl _ _) (Nat.le_refl _) (by simp) ?_; (case hd => rfl); (case hg => rfl); (case hr => first | (go_simp; done) | (go_simp; rfl)); (case hp => exact (Reps.none _ _)); intro v932 w4 ho5 hb hg_ hnew_; clear hg_ hnew_; (first | rw [← Ny931.out] at ho5 | (simp only [Int.reduceToNat] at ho5; rw [← Ny931.out] at ho5)); have n_ := b_ (Kd.R_lower ho5 (below_size (hB_))) <| c_ (below_step (hB_) hb); clear HB; obtain ⟨HO933, HB⟩ := n_; clear hb ho5))
 (try simp only [Act.put, List.setIfInBounds_toArray, List.set_cons_zero, List.set_cons_succ])
 go_cut [17] (fun v17 wc => ∃ (kq : Nat) (x17_2 : Bool), v17 = .bool x17_2 ∧ Aside0 (spec_MulNtt.j0 kq l0 l1 y931 x17_2 = some r) ∧ Aside0 (kq ≤ k) ∧ Aside0 (Kd.R (Kd.int .i64) 3 wc w.heap.size (fun _ => True) v932 y931) ∧ Aside0 (Below w.heap.size w wc))
 case first =>
  have H := HC3.out
  clear HC3
  obtain ⟨t934, A6, H⟩ := bN_ H
  by_cases c7 : t934 = true
  ·subst c7
   replace H := iT_ H
   obtain ⟨t935, A8, H⟩ := bN_ H
   have H' := Aside0.mk H
   clear H
   go_wp2_with (first | ((with_reducible refine gate_callee (f := 86) rfl ?_); refine goesL_ (some 11) rfl rfl Try.func86 (by kernel_rfl) rfl #[.slice A0 l0.length c0] rfl aM_ ?_; (with_reducible refine (spec_PolyOk.calls k _ _ l0 true _ ?side1 ?side2 A6.out).mono ?_); (case side1 => exact cR_ (Kd.C_below HR0.out HB.out)); (case side2 => exact HC0.out); rintro e w' ⟨rfl, ⟨nd, rfl⟩⟩; refine ⟨_, rfl, ?_⟩) | (go_at_call 86; (with_reducible refine (spec_PolyOk.calls k _ _ l1 t935 _ ?side1 ?side2 A8.out).mono ?_); (case side1 => exact cR_ (Kd.C_below HR1.out (hB_))); (case side2 => exact HC1.out); rintro e w' ⟨rfl, ⟨nd, rfl⟩⟩))
   go_meet
   case rel => exact ⟨_, (!t935), f0_, H', ⟨by first | omega | exact Nat.le_refl _⟩, ⟨rR_ HO933.out⟩, ⟨hB_⟩⟩
  ·replace c7 := Bool.eq_false_iff.mpr c7
   subst c7
   replace H := iF_ H
   have H' := Aside0.mk H
   clear H
   go_wp2_with (first | ((with_reducible refine gate_callee (f := 86) rfl ?_); refine goesL_ (some 11) rfl rfl Try.func86 (by kernel_rfl) rfl #[.slice A0 l0.length c0] rfl aM_ ?_; (with_reducible refine (spec_PolyOk.calls k _ _ l0 false _ ?side1 ?side2 A6.out).mono ?_); (case side1 => exact cR_ (Kd.C_below HR0.out HB.out)); (case side2 => exact HC0.out); rintro e w' ⟨rfl, ⟨nd, rfl⟩⟩; refine ⟨_, rfl, ?_⟩))
   go_meet
   case rel => exact ⟨_, (true), f0_, H', ⟨by first | omega | exact Nat.le_refl _⟩, ⟨rR_ HO933.out⟩, ⟨hB_⟩⟩
 case rest =>
  clear HC3
  obtain ⟨kq, x17_2, rfl, HA, HJ2, HO_5, HB⟩ := hcut
  cases kq with
  | zero => exact absurd HA.out (by simp [spec_MulNtt.j0])
  | succ kj2 =>
   have H := HA.out
   clear HA
   simp only [spec_MulNtt.j0] at H
   by_cases c9 : x17_2 = true
   ·subst c9
    replace H := iT_ H
    obtain rfl := Option.some.inj H
    go_wp2
    go_ret
    exact ⟨_, f1_, rR_ HO_5.out, hB_⟩
   ·replace c9 := Bool.eq_false_iff.mpr c9
    subst c9
    replace H := iF_ H
    have H' := Aside0.mk H
    clear H
    go_wp2
    go_loopg [5, 6] kj2 (fun kq v5 v6 w' => ∃ (x5_2 : List Int) (x6_2 : Int), v6 = .int .i64 x6_2 ∧ Aside0 (spec_MulNtt.l0 kq l0 l1 x5_2 x6_2 = some r) ∧ Aside0 (kq ≤ kj2) ∧ Aside0 (Kd.R (Kd.int .i64) 3 w' w.heap.size (fun _ => True) v5 x5_2) ∧ Aside0 (Below w.heap.size w w'))
    case atStart => exact ⟨(y931), (0), f0_, H', ⟨Nat.le_refl _⟩, ⟨rR_ HO_5.out⟩, ⟨hB_⟩⟩
    case round =>
     clear H'
     obtain ⟨x5_2, x6_2, rfl, HA, HK2, HO_5, HB⟩ := hrel
     cases gk with
     | zero => exact absurd HA.out (by simp [spec_MulNtt.l0])
     | succ k2 =>
      have H := HA.out
      clear HA
      simp only [spec_MulNtt.l0] at H
      by_cases c10 : x6_2 < 128
      rotate_left
      ·rw [if_neg c10] at H
       have c10b0 := decide_eq_false c10
       clear c10
       obtain rfl := Option.some.inj H
       go_wp2
       go_ret
       exact ⟨_, f1_, rR_ HO_5.out, hB_⟩
      rw [if_pos c10] at H
      have c10b0 := decide_eq_true c10
      clear c10
      obtain ⟨t936, A11, H⟩ := bN_ H
      obtain ⟨t937, A12, H⟩ := bN_ H
      obtain ⟨ji13, hji13⟩ : ∃ j_ : Int, (wrap64 ((wrap64 (2 * x6_2)) + 1)) = j_ := ⟨_, rfl⟩
      first | rw [hji13] at H | simp only [hji13] at H
      (try rw [hji13] at A11)
      (try rw [hji13] at A12)
      have hji13w : (IntKind.i64.wrap ((wrap64 (2 * x6_2)) + 1)) = ji13 := (i64_w _).trans hji13
      obtain ⟨c14b0, H⟩ := iD_ H
      obtain ⟨c15b0, H⟩ := iD_ H
      obtain ⟨c16b0, H⟩ := iD_ H
      obtain ⟨ji17, hji17⟩ : ∃ j_ : Int, (wrap64 (2 * x6_2)) = j_ := ⟨_, rfl⟩
      first | rw [hji17] at H | simp only [hji17] at H
      (try rw [hji17] at A11)
      (try rw [hji17] at A12)
      have hji17w : (IntKind.i64.wrap (2 * x6_2)) = ji17 := (i64_w _).trans hji17
      have hji13_ji17 : wrap64 (ji17 + 1) = ji13 := by rw [← hji17]; exact hji13
      have hji13_ji17w : IntKind.i64.wrap (ji17 + 1) = ji13 := (i64_w _).trans hji13_ji17
      obtain ⟨c18b0, H⟩ := iD_ H
      obtain ⟨c19b0, H⟩ := iD_ H
      obtain ⟨c20b0, H⟩ := iD_ H
      obtain ⟨y946, hy946⟩ : ∃ y_ : List Int, y_ = (([Int.tmod (wrap64 ((wrap64 ((rd l0 (ji17)) * (rd l1 (ji17)))) + (wrap64 ((Int.tmod (wrap64 ((rd l0 (ji13)) * (rd l1 (ji13)))) 3329) * t937)))) 3329, Int.tmod (wrap64 ((wrap64 ((rd l0 (ji17)) * (rd l1 (ji13)))) + (wrap64 ((rd l0 (ji13)) * (rd l1 (ji17)))))) 3329] : List Int)) := ⟨_, rfl⟩
      first | replace H := yb_ hy946 H | rw [← hy946] at H
      have Ny946 := Aside0.mk hy946
      clear hy946
      obtain ⟨c21, H⟩ := iN_ H
      have LMc21 := Aside0.mk c21
      clear c21
      obtain ⟨y949, hy949⟩ : ∃ y_ : List Int, y_ = (x5_2 ++ y946) := ⟨_, rfl⟩
      first | replace H := yb_ hy949 H | rw [← hy949] at H
      have Ny949 := Aside0.mk hy949
      clear hy949
      have H' := Aside0.mk H
      clear H
      try go_wp2_with (first | ((with_reducible refine gate_callee (f := 88) rfl ?_); refine goesL_ (some 24) rfl rfl Try.func88 (by kernel_rfl) rfl #[.int .i64 x6_2] rfl aM_ ?_; (with_reducible refine (spec_Turn7.calls k2 x6_2 t936 _ A11.out).mono ?_); rintro e w' ⟨rfl, ⟨nd, rfl⟩⟩; refine ⟨_, rfl, ?_⟩) | ((with_reducible refine gate_callee (f := 87) rfl ?_); refine goesL_ (some 27) rfl rfl Try.func87 (by kernel_rfl) rfl #[.int .i64 17, .int .i64 (wrap64 ((wrap64 (2 * t936)) + 1))] rfl aM_ ?_; (with_reducible refine (spec_PowQ.calls k2 17 (wrap64 ((wrap64 (2 * t936)) + 1)) t937 _ A12.out).mono ?_); rintro e w' ⟨rfl, ⟨nd, rfl⟩⟩; refine ⟨_, rfl, ?_⟩))
      (try (rw [drewN_self wr]; generalize hq_ : World.drewN wr _ = wr; have n_ := b_ (show Kd.R (Kd.int .i64) 3 wr w.heap.size (fun _ => True) u5 x5_2 from by rw [← hq_]; exact (rR_ HO_5.out)) <| c_ (show Below w.heap.size w wr from by rw [← hq_]; exact (hB_)); clear HO_5 HB hq_; obtain ⟨HO_5, HB⟩ := n_))
      have n_ := b_ (Kd.R_drew HO_5.out) <| c_ (below_drew1 HB.out)
      clear HO_5 HB
      obtain ⟨HO_5, HB⟩ := n_
      have p938 : 0 ≤ ((ji13) : Int) := oD_
      have q938 : (ji13) < (l0.length : Int) := oD_
      obtain ⟨ad938, e938, hx938_0⟩ := Kd.at_int HR0.out (ji13) p938 q938
      have hw938_0 := hx938_0
      cases e938
      replace hx938_0 := (HB.out.cell (World.block_lt_of_cell? w _ hx938_0)).trans hx938_0
      replace p938 := eq_true p938
      replace q938 := eq_true q938
      have p939 : 0 ≤ ((ji13) : Int) := oD_
      have q939 : (ji13) < (l1.length : Int) := oD_
      obtain ⟨ad939, e939, hx939_0⟩ := Kd.at_int HR1.out (ji13) p939 q939
      have hw939_0 := hx939_0
      cases e939
      replace hx939_0 := (HB.out.cell (World.block_lt_of_cell? w _ hx939_0)).trans hx939_0
      replace p939 := eq_true p939
      replace q939 := eq_true q939
      refine start_ (n := 17) (S := fun w' => w'.cell? (ad938.add ((ji13)).toNat) = some (.int .i64 (rd l0 (ji13))) ∧ w'.cell? (ad939.add ((ji13)).toNat) = some (.int .i64 (rd l1 (ji13)))) (ds := []) (bb_ 17 0) (by kernel_rfl) rfl rfl ⟨((HB.out.cell (World.block_lt_of_cell? w _ hw938_0)).trans hw938_0), ((HB.out.cell (World.block_lt_of_cell? w _ hw939_0)).trans hw939_0)⟩ (fun hHeld => ?_); refine with_tabW spec_MulNtt.tab8 spec_MulNtt.bits8 (fun HT_ HW_ => ?_)
      generalize wr.drew = w22 at HO_5 HB hx938_0 hx939_0 hHeld ⊢
      refine pS_ 0 28 (bb_ 17 1) HT_.out ?_
      refine pS_ 1 29 (bb_ 17 3) HT_.out ?_
      refine pS_ 2 30 (bb_ 17 7) HT_.out ?_
      refine pS_ 3 31 (bb_ 17 15) HT_.out ?_
      refine pS_ 4 32 (bb_ 17 31) HT_.out ?_
      refine pS_ 6 34 (bb_ 17 95) HT_.out ?_
      refine pS_ 7 35 (bb_ 17 223) HT_.out ?_
      refine pS_ 8 36 (bb_ 17 479) HT_.out ?_
      refine pS_ 9 37 (bb_ 17 991) HT_.out ?_
      refine pS_ 10 38 (bb_ 17 2015) HT_.out ?_
      refine pS_ 14 42 (bb_ 17 18399) HT_.out ?_
      refine tS_ 5 33 (bb_ 17 18431) (take_ofW HT_.out HW_.out (by kernel_rfl)) hHeld ?_
      refine tS_ 11 39 (bb_ 17 20479) (take_ofW HT_.out HW_.out (by kernel_rfl)) hHeld ?_
      refine pS_ 12 40 (bb_ 17 24575) HT_.out ?_
      refine pS_ 13 41 (bb_ 17 32767) HT_.out ?_
      refine pS_ 15 43 (bb_ 17 65535) HT_.out ?_
      refine pS_ 16 8 (bb_ 17 131071) HT_.out ?_
      refine done_ (done_of HT_.out (by kernel_rfl)) ?_
      try go_wp2
      have n_ := b_ (Kd.R_drew HO_5.out) <| c_ (below_drew1 HB.out)
      clear HO_5 HB
      obtain ⟨HO_5, HB⟩ := n_
      have p940 : 0 ≤ ((ji17) : Int) := oD_
      have q940 : (ji17) < (l0.length : Int) := oD_
      obtain ⟨ad940, e940, hx940_0⟩ := Kd.at_int HR0.out (ji17) p940 q940
      have hw940_0 := hx940_0
      obtain rfl : ad938 = ad940 := (by injection e940)
      replace hx940_0 := (HB.out.cell (World.block_lt_of_cell? w _ hx940_0)).trans hx940_0
      replace p940 := eq_true p940
      replace q940 := eq_true q940
      have p941 : 0 ≤ ((ji17) : Int) := oD_
      have q941 : (ji17) < (l1.length : Int) := oD_
      obtain ⟨ad941, e941, hx941_0⟩ := Kd.at_int HR1.out (ji17) p941 q941
      have hw941_0 := hx941_0
      obtain rfl : ad939 = ad941 := (by injection e941)
      replace hx941_0 := (HB.out.cell (World.block_lt_of_cell? w _ hx941_0)).trans hx941_0
      replace p941 := eq_true p941
      replace q941 := eq_true q941
      have p942 : 0 ≤ ((ji17) : Int) := oD_
      have q942 : (ji17) < (l0.length : Int) := oD_
      obtain ⟨ad942, e942, hx942_0⟩ := Kd.at_int HR0.out (ji17) p942 q942
      have hw942_0 := hx942_0
      obtain rfl : ad938 = ad942 := (by injection e942)
      replace hx942_0 := (HB.out.cell (World.block_lt_of_cell? w _ hx942_0)).trans hx942_0
      replace p942 := eq_true p942
      replace q942 := eq_true q942
      have p943 : 0 ≤ ((ji13) : Int) := oD_
      have q943 : (ji13) < (l1.length : Int) := oD_
      obtain ⟨ad943, e943, hx943_0⟩ := Kd.at_int HR1.out (ji13) p943 q943
      have hw943_0 := hx943_0
      obtain rfl : ad939 = ad943 := (by injection e943)
      replace hx943_0 := (HB.out.cell (World.block_lt_of_cell? w _ hx943_0)).trans hx943_0
      replace p943 := eq_true p943
      replace q943 := eq_true q943
      have p944 : 0 ≤ ((ji13) : Int) := oD_
      have q944 : (ji13) < (l0.length : Int) := oD_
      obtain ⟨ad944, e944, hx944_0⟩ := Kd.at_int HR0.out (ji13) p944 q944
      have hw944_0 := hx944_0
      obtain rfl : ad938 = ad944 := (by injection e944)
      replace hx944_0 := (HB.out.cell (World.block_lt_of_cell? w _ hx944_0)).trans hx944_0
      replace p944 := eq_true p944
      replace q944 := eq_true q944
      have p945 : 0 ≤ ((ji17) : Int) := oD_
      have q945 : (ji17) < (l1.length : Int) := oD_
      obtain ⟨ad945, e945, hx945_0⟩ := Kd.at_int HR1.out (ji17) p945 q945
      have hw945_0 := hx945_0
      obtain rfl : ad939 = ad945 := (by injection e945)
      replace hx945_0 := (HB.out.cell (World.block_lt_of_cell? w _ hx945_0)).trans hx945_0
      replace p945 := eq_true p945
      replace q945 := eq_true q945
      refine start_ (n := 44) (S := fun w' => w'.cell? (ad938.add ((ji17)).toNat) = some (.int .i64 (rd l0 (ji17))) ∧ w'.cell? (ad939.add ((ji17)).toNat) = some (.int .i64 (rd l1 (ji17))) ∧ w'.cell? (ad938.add ((ji17)).toNat) = some (.int .i64 (rd l0 (ji17))) ∧ w'.cell? (ad939.add ((ji13)).toNat) = some (.int .i64 (rd l1 (ji13))) ∧ w'.cell? (ad938.add ((ji13)).toNat) = some (.int .i64 (rd l0 (ji13))) ∧ w'.cell? (ad939.add ((ji17)).toNat) = some (.int .i64 (rd l1 (ji17)))) (ds := []) (bb_ 44 0) (by kernel_rfl) rfl rfl ⟨((HB.out.cell (World.block_lt_of_cell? w _ hw940_0)).trans hw940_0), ((HB.out.cell (World.block_lt_of_cell? w _ hw941_0)).trans hw941_0), ((HB.out.cell (World.block_lt_of_cell? w _ hw942_0)).trans hw942_0), ((HB.out.cell (World.block_lt_of_cell? w _ hw943_0)).trans hw943_0), ((HB.out.cell (World.block_lt_of_cell? w _ hw944_0)).trans hw944_0), ((HB.out.cell (World.block_lt_of_cell? w _ hw945_0)).trans hw945_0)⟩ (fun hHeld => ?_); refine with_tabW spec_MulNtt.tab9 spec_MulNtt.bits9 (fun HT_ HW_ => ?_)
      generalize w22.drew = w23 at HO_5 HB hx940_0 hx941_0 hx942_0 hx943_0 hx944_0 hx945_0 hHeld ⊢
      refine pS_ 0 44 (bb_ 44 1) HT_.out ?_
      refine pS_ 1 45 (bb_ 44 3) HT_.out ?_
      refine pS_ 2 46 (bb_ 44 7) HT_.out ?_
      refine pS_ 3 47 (bb_ 44 15) HT_.out ?_
      refine pS_ 4 48 (bb_ 44 31) HT_.out ?_
      refine pS_ 6 50 (bb_ 44 95) HT_.out ?_
      refine pS_ 7 51 (bb_ 44 223) HT_.out ?_
      refine pS_ 8 52 (bb_ 44 479) HT_.out ?_
      refine pS_ 9 53 (bb_ 44 991) HT_.out ?_
      refine pS_ 12 56 (bb_ 44 5087) HT_.out ?_
      refine pS_ 15 59 (bb_ 44 37855) HT_.out ?_
      refine pS_ 16 60 (bb_ 44 103391) HT_.out ?_
      refine pS_ 17 61 (bb_ 44 234463) HT_.out ?_
      refine pS_ 18 62 (bb_ 44 496607) HT_.out ?_
      refine pS_ 20 64 (bb_ 44 1545183) HT_.out ?_
      refine pS_ 21 65 (bb_ 44 3642335) HT_.out ?_
      refine pS_ 22 66 (bb_ 44 7836639) HT_.out ?_
      refine pS_ 23 67 (bb_ 44 16225247) HT_.out ?_
      refine pS_ 24 68 (bb_ 44 33002463) HT_.out ?_
      refine pS_ 27 71 (bb_ 44 167220191) HT_.out ?_
      refine pS_ 28 72 (bb_ 44 435655647) HT_.out ?_
      refine pS_ 29 73 (bb_ 44 972526559) HT_.out ?_
      refine pS_ 30 74 (bb_ 44 2046268383) HT_.out ?_
      refine pS_ 31 75 (bb_ 44 4193752031) HT_.out ?_
      refine pS_ 33 77 (bb_ 44 12783686623) HT_.out ?_
      refine pS_ 34 78 (bb_ 44 29963555807) HT_.out ?_
      refine pS_ 35 79 (bb_ 44 64323294175) HT_.out ?_
      refine pS_ 36 80 (bb_ 44 133042770911) HT_.out ?_
      refine tS_ 5 49 (bb_ 44 133042770943) (take_ofW HT_.out HW_.out (by kernel_rfl)) hHeld ?_
      refine tS_ 10 54 (bb_ 44 133042771967) (take_ofW HT_.out HW_.out (by kernel_rfl)) hHeld ?_
      refine pS_ 11 55 (bb_ 44 133042774015) HT_.out ?_
      refine pS_ 13 57 (bb_ 44 133042782207) HT_.out ?_
      refine pS_ 14 58 (bb_ 44 133042798591) HT_.out ?_
      refine tS_ 19 63 (bb_ 44 133043322879) (take_ofW HT_.out HW_.out (by kernel_rfl)) hHeld ?_
      refine tS_ 25 69 (bb_ 44 133076877311) (take_ofW HT_.out HW_.out (by kernel_rfl)) hHeld ?_
      refine pS_ 26 70 (bb_ 44 133143986175) HT_.out ?_
      refine tS_ 32 76 (bb_ 44 137438953471) (take_ofW HT_.out HW_.out (by kernel_rfl)) hHeld ?_
      refine tS_ 37 81 (bb_ 44 274877906943) (take_ofW HT_.out HW_.out (by kernel_rfl)) hHeld ?_
      refine pS_ 38 82 (bb_ 44 549755813887) HT_.out ?_
      refine pS_ 39 83 (bb_ 44 1099511627775) HT_.out ?_
      refine pS_ 40 84 (bb_ 44 2199023255551) HT_.out ?_
      refine one_ (i := 41) (N := some 85) (bb_ 44 4398046511103) rfl rfl (one_of HT_.out (by kernel_rfl)) (by decide) (fun K hK => ?_)
      refine Kd.R_lit_step (Kd.int .i64) _ 3 ?hg (N := 85) ?hd (xs := ([Int.tmod (wrap64 ((wrap64 ((rd l0 (ji17)) * (rd l1 (ji17)))) + (wrap64 ((Int.tmod (wrap64 ((rd l0 (ji13)) * (rd l1 (ji13)))) 3329) * t937)))) 3329, Int.tmod (wrap64 ((wrap64 ((rd l0 (ji17)) * (rd l1 (ji13)))) + (wrap64 ((rd l0 (ji13)) * (rd l1 (ji17)))))) 3329] : List Int)) (inner := [.int .i64 (Int.tmod (wrap64 ((wrap64 ((rd l0 (ji17)) * (rd l1 (ji17)))) + (wrap64 ((Int.tmod (wrap64 ((rd l0 (ji13)) * (rd l1 (ji13)))) 3329) * t937)))) 3329), .int .i64 (Int.tmod (wrap64 ((wrap64 ((rd l0 (ji17)) * (rd l1 (ji13)))) + (wrap64 ((rd l0 (ji13)) * (rd l1 (ji17)))))) 3329)]) (ok := fun _ => True) (okp := fun _ => True) ?hr ?hp (fun _ hk => hk) trivial (Below.refl _ _) (Nat.le_refl _) (by simp) ?_; (case hd => rfl); (case hg => rfl); (case hr => first | (go_simp; done) | (go_simp; rfl)); (case hp => exact (Reps.one (show Kd.M (Kd.int .i64) _ _ _ (Int.tmod (wrap64 ((wrap64 ((rd l0 (ji17)) * (rd l1 (ji17)))) + (wrap64 ((Int.tmod (wrap64 ((rd l0 (ji13)) * (rd l1 (ji13)))) 3329) * t937)))) 3329) [.int .i64 (Int.tmod (wrap64 ((wrap64 ((rd l0 (ji17)) * (rd l1 (ji17)))) + (wrap64 ((Int.tmod (wrap64 ((rd l0 (ji13)) * (rd l1 (ji13)))) 3329) * t937)))) 3329)] from rfl) (Reps.one (show Kd.M (Kd.int .i64) _ _ _ (Int.tmod (wrap64 ((wrap64 ((rd l0 (ji17)) * (rd l1 (ji13)))) + (wrap64 ((rd l0 (ji13)) * (rd l1 (ji17)))))) 3329) [.int .i64 (Int.tmod (wrap64 ((wrap64 ((rd l0 (ji17)) * (rd l1 (ji13)))) + (wrap64 ((rd l0 (ji13)) * (rd l1 (ji17)))))) 3329)] from rfl) (Reps.none _ _))))
      intro v947 w24 ho25 hb hg_ hnew_
      clear hg_ hnew_
      (first | rw [← Ny946.out] at ho25 | (simp only [Int.reduceToNat] at ho25; rw [← Ny946.out] at ho25))
      have n_ := b_ (Kd.R_elder' (rR_ HO_5.out) (Kd.R_base ho25) hb) <| b_ (Kd.R_lower (Kd.R_new' ho25 (Kd.R_lt (rR_ HO_5.out))) (below_size (hB_))) <| c_ (below_step (hB_) hb)
      clear HO_5 HB
      obtain ⟨HO_5, HO948, HB⟩ := n_
      clear hb ho25
      obtain ⟨Ao27, co27, eo27⟩ := Kd.R_slice HO948.out
      (first | subst eo27 | (injection eo27 with f1_ f2_ f3_; have f4_ := f1_.symm; have f5_ := f3_.symm; clear f1_ f2_ f3_; subst f4_; subst f5_))
      refine hK.out _ _ ⟨((HB.out.cell (World.block_lt_of_cell? w _ hw940_0)).trans hw940_0), ((HB.out.cell (World.block_lt_of_cell? w _ hw941_0)).trans hw941_0), ((HB.out.cell (World.block_lt_of_cell? w _ hw942_0)).trans hw942_0), ((HB.out.cell (World.block_lt_of_cell? w _ hw943_0)).trans hw943_0), ((HB.out.cell (World.block_lt_of_cell? w _ hw944_0)).trans hw944_0), ((HB.out.cell (World.block_lt_of_cell? w _ hw945_0)).trans hw945_0)⟩ (fun hHeld => ?_)
      clear hK K
      refine norm_ (a' := ?_) ?_ ?_
      rotate_left
      ·show Act.put _ (some 85) _ = _
       simp only [Act.put, List.setIfInBounds_toArray, List.set_cons_zero, List.set_cons_succ, i64_w, i32_w]
       rfl
      refine one_ (i := 42) (N := some 86) (bb_ 44 8796093022207) rfl rfl (one_of HT_.out (by kernel_rfl)) (by decide) (fun K hK => ?_)
      refine Kd.R_append_rows_step (Kd.int .i64) (w0 := w) w.heap.size (by rfl) (.tmp 44) (.tmp 85) 22 3 (.int .i64 0) 8 rfl Try.underlying22 info3 rfl (by decide) (by omega) u5 x5_2 y946 _ _ _ (fun k_ => some k_ ≠ (.slice Ao27 y946.length co27 : Value).ownBlock) (fun _ => False) rfl rfl ?aO ?aR (fun _ _ h => h) (fun _ h => h.elim) ?aF ?aB ?aS ?aL ?_
      (case aR => exact cR_ (Kd.R_reads' HO948.out).2.2)
      (case aB => exact (hB_))
      (case aF => exact (fun k_ hk => Kd.fresh' (Kd.R_lt (rR_ HO948.out)) k_ hk))
      (case aO => exact (by refine kR_ ?_; exact Kd.R_mono HO_5.out (fun _ hk => hk.2)))
      (case aS => exact (below_size (hB_)))
      (case aL => have := LMc21.out; omega)
      intro v950 w26 ho hb hg hat
      rw [← Ny949.out] at ho
      have n_ := b_ (Kd.R_after (ok := (fun _ => True)) (rR_ HO948.out) hg hat) <| b_ (hb) <| c_ (ho)
      clear HO948 HB HO_5
      obtain ⟨HO948, HB, HO951⟩ := n_
      clear ho hb hg hat
      refine hK.out _ _ ⟨((HB.out.cell (World.block_lt_of_cell? w _ hw940_0)).trans hw940_0), ((HB.out.cell (World.block_lt_of_cell? w _ hw941_0)).trans hw941_0), ((HB.out.cell (World.block_lt_of_cell? w _ hw942_0)).trans hw942_0), ((HB.out.cell (World.block_lt_of_cell? w _ hw943_0)).trans hw943_0), ((HB.out.cell (World.block_lt_of_cell? w _ hw944_0)).trans hw944_0), ((HB.out.cell (World.block_lt_of_cell? w _ hw945_0)).trans hw945_0)⟩ (fun hHeld => ?_)
      clear hK K
      refine norm_ (a' := ?_) ?_ ?_
      rotate_left
      ·show Act.put _ (some 86) _ = _
       simp only [Act.put, List.setIfInBounds_toArray, List.set_cons_zero, List.set_cons_succ, i64_w, i32_w]
       rfl
      refine pS_ 43 5 (bb_ 44 17592186044415) HT_.out ?_
      refine done_ (done_of HT_.out (by kernel_rfl)) ?_
      try go_wp2
      go_roundg k2
      case measure => have := HJ2.out; have := HK2.out; omega
      case rel => exact ⟨(y949), (wrap64 (x6_2 + 1)), f0_, H', ⟨by have := HJ2.out; have := HK2.out; omega⟩, ⟨by refine kR_ ?_; exact Kd.R_mono HO951.out (fun _ hk => trivial)⟩, ⟨hB_⟩⟩

end Go.Proofs.Ytnckhligcdieaaa.P
