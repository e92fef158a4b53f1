-- printed texts of this session, regrouped
import Derived.Test.YtnckhligcdieaaaMW6
import Derived.Test.YtnckhligcdieaaaPx0
import Derived.Test.YtnckhligcdieaaaPx5
import Derived.Test.YtnckhligcdieaaaPx6
import Derived.Test.YtnckhligcdieaaaPx7
import Derived.Test.YtnckhligcdieaaaPx17
import Derived.Test.YtnckhligcdieaaaPx20
import Derived.Test.YtnckhligcdieaaaPx22
import Derived.Test.YtnckhligcdieaaaPx23
namespace Go.Proofs.Ytnckhligcdieaaa.P
open Go.RowKit Go.Proofs.YtnckhligcdieaaaW.PrintWords Go.Proofs.YtnckhligcdieaaaW.PrintLast Go.Proofs.YtnckhligcdieaaaW.PrintMore
attribute [local go_sem] max2_int min2_int max_two min_two max_three min_three max_four min_four   -- for this text's walks alone
set_option linter.unusedVariables false
set_option linter.unusedSimpArgs false

/-! ### laws_FnSamples: function 5 -/
def laws_FnSamples.f (k : Nat) (l0 : List Int) : Option (Bool) := (laws_big.f l0).bind fun t383 => (if t383 = true then (some true) else ((spec_DrawUniform.f k l0).bind fun bt384 => ((impl_Uniform.f k bt384.1 bt384.2.1 bt384.2.2).bind fun t387 => ((impl_Small.f k bt384.1 bt384.2.1).bind fun t390 => ((impl_PolyOk.f k t387).bind fun t393 => (if t393 = true then ((impl_SmallOk.f k t390).bind fun t394 => (if t394 = true then ((impl_PolyOk.f k t390).bind fun t395 => (if t395 = true then ((spec_Uniform.f k bt384.1 bt384.2.1 bt384.2.2).bind fun t396 => ((laws_sameInts.f k t387 t396).bind fun t399 => (if t399 = true then ((spec_Small.f k bt384.1 bt384.2.1).bind fun t400 => ((laws_sameInts.f k t390 t400).bind fun t403 => (if t403 = true then ((impl_SmallOk.f k (([1] : List Int))).bind fun t407 => (some (!t407))) else (none)))) else (none)))) else (none))) else (none))) else (none)))))))
theorem laws_FnSamples.mono : ∀ a0 k, LeO (laws_FnSamples.f k a0) (laws_FnSamples.f (k + 1) a0) := by
 intro a0 k
 unfold laws_FnSamples.f
 repeat' first
   | (with_reducible exact impl_PolyOk.mono _ _)
   | (with_reducible exact impl_Small.mono _ _ _)
   | (with_reducible exact impl_SmallOk.mono _ _)
   | (with_reducible exact impl_Uniform.mono _ _ _ _)
   | (with_reducible exact laws_sameInts.mono _ _ _)
   | (with_reducible exact spec_DrawUniform.mono _ _)
   | (with_reducible exact spec_Small.mono _ _ _)
   | (with_reducible exact spec_Uniform.mono _ _ _ _)
   | (with_reducible exact LeO.refl _)
   | (with_reducible exact LeO.none _)
   | (with_reducible refine LeO.ite ?_ ?_)
   | (with_reducible refine LeO.bind ?_ (fun _ => ?_))
   | exact impl_PolyOk.mono _ _
   | exact impl_Small.mono _ _ _
   | exact impl_SmallOk.mono _ _
   | exact impl_Uniform.mono _ _ _ _
   | exact laws_sameInts.mono _ _ _
   | exact spec_DrawUniform.mono _ _
   | exact spec_Small.mono _ _ _
   | exact spec_Uniform.mono _ _ _ _
   | exact LeO.none _
   | refine LeO.ite ?_ ?_
   | refine LeO.bind ?_ (fun _ => ?_)
set_option maxHeartbeats 8000000 in
set_option maxRecDepth 100000 in
theorem laws_FnSamples.calls (k : Nat) (A0 : Option Addr) (c0 : Nat) (l0 : List Int) (r : Bool) (w : World) (hr0 : Kd.C (Kd.int .u8) w A0 l0.length l0) (hc0 : l0.length ≤ c0) (h : laws_FnSamples.f k l0 = some r) :
  Calls Try.prog 5 #[.slice A0 l0.length c0] w fun e w' => e = .returned (.bool r) ∧ Below w.heap.size w w' := by
 have HR0 := Aside0.mk hr0
 have HC0 := Aside0.mk hc0
 clear hr0 hc0
 have HB := Aside0.mk (Below.refl w.heap.size w)
 have H : ((laws_big.f l0).bind fun t383 => (if t383 = true then (some true) else ((spec_DrawUniform.f k l0).bind fun bt384 => ((impl_Uniform.f k bt384.1 bt384.2.1 bt384.2.2).bind fun t387 => ((impl_Small.f k bt384.1 bt384.2.1).bind fun t390 => ((impl_PolyOk.f k t387).bind fun t393 => (if t393 = true then ((impl_SmallOk.f k t390).bind fun t394 => (if t394 = true then ((impl_PolyOk.f k t390).bind fun t395 => (if t395 = true then ((spec_Uniform.f k bt384.1 bt384.2.1 bt384.2.2).bind fun t396 => ((laws_sameInts.f k t387 t396).bind fun t399 => (if t399 = true then ((spec_Small.f k bt384.1 bt384.2.1).bind fun t400 => ((laws_sameInts.f k t390 t400).bind fun t403 => (if t403 = true then ((impl_SmallOk.f k (([1] : List Int))).bind fun t407 => (some (!t407))) else (none)))) else (none)))) else (none))) else (none))) else (none)))))))) = some r := h
 clear h
 replace H := Option.bind_eq_some_iff.mp H
 obtain ⟨t383, A20, H⟩ := H
 replace H : (if t383 = true then (some true) else ((spec_DrawUniform.f k l0).bind fun bt384 => ((impl_Uniform.f k bt384.1 bt384.2.1 bt384.2.2).bind fun t387 => ((impl_Small.f k bt384.1 bt384.2.1).bind fun t390 => ((impl_PolyOk.f k t387).bind fun t393 => (if t393 = true then ((impl_SmallOk.f k t390).bind fun t394 => (if t394 = true then ((impl_PolyOk.f k t390).bind fun t395 => (if t395 = true then ((spec_Uniform.f k bt384.1 bt384.2.1 bt384.2.2).bind fun t396 => ((laws_sameInts.f k t387 t396).bind fun t399 => (if t399 = true then ((spec_Small.f k bt384.1 bt384.2.1).bind fun t400 => ((laws_sameInts.f k t390 t400).bind fun t403 => (if t403 = true then ((impl_SmallOk.f k (([1] : List Int))).bind fun t407 => (some (!t407))) else (none)))) else (none)))) else (none))) else (none))) else (none))))))) = some r := H
 have A2 := Aside0.mk A20
 clear A20
 by_cases c3 : t383 = true
 ·subst c3
  have H1 : (some true) = some r := by rw [if_pos rfl] at H; exact H
  clear H
  have H := H1
  clear H1
  obtain rfl := Option.some.inj H
  go_enter Try.func5, Try.ntmps5
  go_wp2_with (first | ((with_reducible refine gate_callee (f := 15) rfl ?_); refine goesL_ (some 9) rfl rfl Try.func15 (by kernel_rfl) rfl #[.slice A0 l0.length c0] rfl aM_ ?_; (with_reducible refine (laws_big.calls _ _ l0 true _ ?side1 ?side2 A2.out).mono ?_); (case side1 => exact cR_ HR0.out); (case side2 => exact HC0.out); rintro e w' ⟨rfl, ⟨nd, rfl⟩⟩; refine ⟨_, rfl, ?_⟩))
  go_ret
  exact ⟨by first | rfl | (simp [errW_none, errW_some] <;> rfl) | (simp [*, errW_none, errW_some] <;> rfl), hB_⟩
 ·replace c3 := Bool.eq_false_iff.mpr c3
  subst c3
  have H1 : ((spec_DrawUniform.f k l0).bind fun bt384 => ((impl_Uniform.f k bt384.1 bt384.2.1 bt384.2.2).bind fun t387 => ((impl_Small.f k bt384.1 bt384.2.1).bind fun t390 => ((impl_PolyOk.f k t387).bind fun t393 => (if t393 = true then ((impl_SmallOk.f k t390).bind fun t394 => (if t394 = true then ((impl_PolyOk.f k t390).bind fun t395 => (if t395 = true then ((spec_Uniform.f k bt384.1 bt384.2.1 bt384.2.2).bind fun t396 => ((laws_sameInts.f k t387 t396).bind fun t399 => (if t399 = true then ((spec_Small.f k bt384.1 bt384.2.1).bind fun t400 => ((laws_sameInts.f k t390 t400).bind fun t403 => (if t403 = true then ((impl_SmallOk.f k (([1] : List Int))).bind fun t407 => (some (!t407))) else (none)))) else (none)))) else (none))) else (none))) else (none)))))) = some r := by rw [if_neg (show ¬ (false = true) by decide)] at H; exact H
  clear H
  have H := H1
  clear H1
  replace H := Option.bind_eq_some_iff.mp H
  obtain ⟨⟨t384, t385, t386⟩, A40, H⟩ := H
  replace H : ((impl_Uniform.f k t384 t385 t386).bind fun t387 => ((impl_Small.f k t384 t385).bind fun t390 => ((impl_PolyOk.f k t387).bind fun t393 => (if t393 = true then ((impl_SmallOk.f k t390).bind fun t394 => (if t394 = true then ((impl_PolyOk.f k t390).bind fun t395 => (if t395 = true then ((spec_Uniform.f k t384 t385 t386).bind fun t396 => ((laws_sameInts.f k t387 t396).bind fun t399 => (if t399 = true then ((spec_Small.f k t384 t385).bind fun t400 => ((laws_sameInts.f k t390 t400).bind fun t403 => (if t403 = true then ((impl_SmallOk.f k (([1] : List Int))).bind fun t407 => (some (!t407))) else (none)))) else (none)))) else (none))) else (none))) else (none))))) = some r := H
  have A4 := Aside0.mk A40
  clear A40
  replace H := Option.bind_eq_some_iff.mp H
  obtain ⟨t387, A50, H⟩ := H
  replace H : ((impl_Small.f k t384 t385).bind fun t390 => ((impl_PolyOk.f k t387).bind fun t393 => (if t393 = true then ((impl_SmallOk.f k t390).bind fun t394 => (if t394 = true then ((impl_PolyOk.f k t390).bind fun t395 => (if t395 = true then ((spec_Uniform.f k t384 t385 t386).bind fun t396 => ((laws_sameInts.f k t387 t396).bind fun t399 => (if t399 = true then ((spec_Small.f k t384 t385).bind fun t400 => ((laws_sameInts.f k t390 t400).bind fun t403 => (if t403 = true then ((impl_SmallOk.f k (([1] : List Int))).bind fun t407 => (some (!t407))) else (none)))) else (none)))) else (none))) else (none))) else (none)))) = some r := H
  have A5 := Aside0.mk A50
  clear A50
  replace H := Option.bind_eq_some_iff.mp H
  obtain ⟨t390, A60, H⟩ := H
  replace H : ((impl_PolyOk.f k t387).bind fun t393 => (if t393 = true then ((impl_SmallOk.f k t390).bind fun t394 => (if t394 = true then ((impl_PolyOk.f k t390).bind fun t395 => (if t395 = true then ((spec_Uniform.f k t384 t385 t386).bind fun t396 => ((laws_sameInts.f k t387 t396).bind fun t399 => (if t399 = true then ((spec_Small.f k t384 t385).bind fun t400 => ((laws_sameInts.f k t390 t400).bind fun t403 => (if t403 = true then ((impl_SmallOk.f k (([1] : List Int))).bind fun t407 => (some (!t407))) else (none)))) else (none)))) else (none))) else (none))) else (none))) = some r := H
  have A6 := Aside0.mk A60
  clear A60
  replace H := Option.bind_eq_some_iff.mp H
  obtain ⟨t393, A70, H⟩ := H
  replace H : (if t393 = true then ((impl_SmallOk.f k t390).bind fun t394 => (if t394 = true then ((impl_PolyOk.f k t390).bind fun t395 => (if t395 = true then ((spec_Uniform.f k t384 t385 t386).bind fun t396 => ((laws_sameInts.f k t387 t396).bind fun t399 => (if t399 = true then ((spec_Small.f k t384 t385).bind fun t400 => ((laws_sameInts.f k t390 t400).bind fun t403 => (if t403 = true then ((impl_SmallOk.f k (([1] : List Int))).bind fun t407 => (some (!t407))) else (none)))) else (none)))) else (none))) else (none))) else (none)) = some r := H
  have A7 := Aside0.mk A70
  clear A70
  by_cases c8 : t393 = true
  ·subst c8
   have H1 : ((impl_SmallOk.f k t390).bind fun t394 => (if t394 = true then ((impl_PolyOk.f k t390).bind fun t395 => (if t395 = true then ((spec_Uniform.f k t384 t385 t386).bind fun t396 => ((laws_sameInts.f k t387 t396).bind fun t399 => (if t399 = true then ((spec_Small.f k t384 t385).bind fun t400 => ((laws_sameInts.f k t390 t400).bind fun t403 => (if t403 = true then ((impl_SmallOk.f k (([1] : List Int))).bind fun t407 => (some (!t407))) else (none)))) else (none)))) else (none))) else (none))) = some r := by rw [if_pos rfl] at H; exact H
   clear H
   have H := H1
   clear H1
   replace H := Option.bind_eq_some_iff.mp H
   obtain ⟨t394, A90, H⟩ := H
   replace H : (if t394 = true then ((impl_PolyOk.f k t390).bind fun t395 => (if t395 = true then ((spec_Uniform.f k t384 t385 t386).bind fun t396 => ((laws_sameInts.f k t387 t396).bind fun t399 => (if t399 = true then ((spec_Small.f k t384 t385).bind fun t400 => ((laws_sameInts.f k t390 t400).bind fun t403 => (if t403 = true then ((impl_SmallOk.f k (([1] : List Int))).bind fun t407 => (some (!t407))) else (none)))) else (none)))) else (none))) else (none)) = some r := H
   have A9 := Aside0.mk A90
   clear A90
   by_cases c10 : t394 = true
   ·subst c10
    have H1 : ((impl_PolyOk.f k t390).bind fun t395 => (if t395 = true then ((spec_Uniform.f k t384 t385 t386).bind fun t396 => ((laws_sameInts.f k t387 t396).bind fun t399 => (if t399 = true then ((spec_Small.f k t384 t385).bind fun t400 => ((laws_sameInts.f k t390 t400).bind fun t403 => (if t403 = true then ((impl_SmallOk.f k (([1] : List Int))).bind fun t407 => (some (!t407))) else (none)))) else (none)))) else (none))) = some r := by rw [if_pos rfl] at H; exact H
    clear H
    have H := H1
    clear H1
    replace H := Option.bind_eq_some_iff.mp H
    obtain ⟨t395, A110, H⟩ := H
    replace H : (if t395 = true then ((spec_Uniform.f k t384 t385 t386).bind fun t396 => ((laws_sameInts.f k t387 t396).bind fun t399 => (if t399 = true then ((spec_Small.f k t384 t385).bind fun t400 => ((laws_sameInts.f k t390 t400).bind fun t403 => (if t403 = true then ((impl_SmallOk.f k (([1] : List Int))).bind fun t407 => (some (!t407))) else (none)))) else (none)))) else (none)) = some r := H
    have A11 := Aside0.mk A110
    clear A110
    by_cases c12 : t395 = true
    ·subst c12
     have H1 : ((spec_Uniform.f k t384 t385 t386).bind fun t396 => ((laws_sameInts.f k t387 t396).bind fun t399 => (if t399 = true then ((spec_Small.f k t384 t385).bind fun t400 => ((laws_sameInts.f k t390 t400).bind fun t403 => (if t403 = true then ((impl_SmallOk.f k (([1] : List Int))).bind fun t407 => (some (!t407))) else (none)))) else (none)))) = some r := by rw [if_pos rfl] at H; exact H
     clear H
     have H := H1
     clear H1
     replace H := Option.bind_eq_some_iff.mp H
     obtain ⟨t396, A130, H⟩ := H
     replace H : ((laws_sameInts.f k t387 t396).bind fun t399 => (if t399 = true then ((spec_Small.f k t384 t385).bind fun t400 => ((laws_sameInts.f k t390 t400).bind fun t403 => (if t403 = true then ((impl_SmallOk.f k (([1] : List Int))).bind fun t407 => (some (!t407))) else (none)))) else (none))) = some r := H
     have A13 := Aside0.mk A130
     clear A130
     replace H := Option.bind_eq_some_iff.mp H
     obtain ⟨t399, A140, H⟩ := H
     replace H : (if t399 = true then ((spec_Small.f k t384 t385).bind fun t400 => ((laws_sameInts.f k t390 t400).bind fun t403 => (if t403 = true then ((impl_SmallOk.f k (([1] : List Int))).bind fun t407 => (some (!t407))) else (none)))) else (none)) = some r := H
     have A14 := Aside0.mk A140
     clear A140
     by_cases c15 : t399 = true
     ·subst c15
      have H1 : ((spec_Small.f k t384 t385).bind fun t400 => ((laws_sameInts.f k t390 t400).bind fun t403 => (if t403 = true then ((impl_SmallOk.f k (([1] : List Int))).bind fun t407 => (some (!t407))) else (none)))) = some r := by rw [if_pos rfl] at H; exact H
      clear H
      have H := H1
      clear H1
      replace H := Option.bind_eq_some_iff.mp H
      obtain ⟨t400, A160, H⟩ := H
      replace H : ((laws_sameInts.f k t390 t400).bind fun t403 => (if t403 = true then ((impl_SmallOk.f k (([1] : List Int))).bind fun t407 => (some (!t407))) else (none))) = some r := H
      have A16 := Aside0.mk A160
      clear A160
      replace H := Option.bind_eq_some_iff.mp H
      obtain ⟨t403, A170, H⟩ := H
      replace H : (if t403 = true then ((impl_SmallOk.f k (([1] : List Int))).bind fun t407 => (some (!t407))) else (none)) = some r := H
      have A17 := Aside0.mk A170
      clear A170
      by_cases c18 : t403 = true
      ·subst c18
       have H1 : ((impl_SmallOk.f k (([1] : List Int))).bind fun t407 => (some (!t407))) = some r := by rw [if_pos rfl] at H; exact H
       clear H
       have H := H1
       clear H1
       obtain ⟨y404, hy404⟩ : ∃ y_ : List Int, y_ = (([1] : List Int)) := ⟨_, rfl⟩
       replace H : ((impl_SmallOk.f k y404).bind fun t407 => (some (!t407))) = some r := by first | (rw [hy404]; with_reducible exact H) | (have H2_ := (Option.bind_some _ _).symm.trans H; rw [hy404]; with_reducible exact H2_) | (have H2_ := (Option.bind_some _ _).symm.trans H; with_reducible exact H2_) | with_reducible exact H | (rw [hy404]; exact H) | exact H
       have Ny404 := Aside0.mk hy404
       clear hy404
       replace H := Option.bind_eq_some_iff.mp H
       obtain ⟨t407, A190, H⟩ := H
       replace H : (some (!t407)) = some r := H
       have A19 := Aside0.mk A190
       clear A190
       obtain rfl := Option.some.inj H
       go_enter Try.func5, Try.ntmps5
       go_wp2_with (first | ((with_reducible refine gate_callee (f := 15) rfl ?_); refine goesL_ (some 9) rfl rfl Try.func15 (by kernel_rfl) rfl #[.slice A0 l0.length c0] rfl aM_ ?_; (with_reducible refine (laws_big.calls _ _ l0 false _ ?side1 ?side2 A2.out).mono ?_); (case side1 => exact cR_ HR0.out); (case side2 => exact HC0.out); rintro e w' ⟨rfl, ⟨nd, rfl⟩⟩; refine ⟨_, rfl, ?_⟩) | ((with_reducible refine gate_callee (f := 16) rfl ?_); refine goesL_ (some 12) rfl rfl Try.func16 (by kernel_rfl) rfl #[.slice A0 l0.length c0] rfl aM_ ?_; (with_reducible refine (spec_DrawUniform.calls k _ _ l0 t384 t385 t386 _ ?side1 ?side2 A4.out).mono ?_); (case side1 => exact cR_ HR0.out); (case side2 => exact HC0.out); rintro e w20 ⟨rfl, hb⟩; refine ⟨_, rfl, ?_⟩; have n0_ := Aside0.mk (below_step (hB_) hb); clear HB; have HB := n0_; clear n0_; (try clear hb); (try clear hb2); (try clear hk); (try clear hi)) | ((with_reducible refine gate_callee (f := 14) rfl ?_); refine goesL_ (some 19) rfl rfl Try.func14 (by kernel_rfl) rfl #[.string t384, .int .i64 t385, .int .i64 t386] rfl aM_ ?_; (with_reducible refine (impl_Uniform.calls k t384 t385 t386 t387 _ A5.out).mono ?_); rintro e w21 ⟨v388, rfl, ho0, hb⟩; refine ⟨_, rfl, ?_⟩; have n0_ := Aside0.mk (Kd.R_lower ho0 (below_size (hB_))); have n1_ := Aside0.mk (below_step (hB_) hb); clear HB; have HO389 := n0_; have HB := n1_; clear n0_ n1_; (try clear hb); (try clear hb2); (try clear hk); (try clear hi); (try clear ho0)) | ((with_reducible refine gate_callee (f := 9) rfl ?_); refine goesL_ (some 22) rfl rfl Try.func9 (by kernel_rfl) rfl #[.string t384, .int .i64 t385] rfl aM_ ?_; (with_reducible refine (impl_Small.calls k t384 t385 t390 _ A6.out).mono ?_); rintro e w22 ⟨v391, rfl, ho0, hb⟩; refine ⟨_, rfl, ?_⟩; have n0_ := Aside0.mk (Kd.R_elder' (rR_ HO389.out) (Kd.R_base ho0) hb); have n1_ := Aside0.mk (Kd.R_lower (Kd.R_new' ho0 (Kd.R_lt (rR_ HO389.out))) (below_size (hB_))); have n2_ := Aside0.mk (below_step (hB_) hb); clear HO389; clear HB; have HO389 := n0_; have HO392 := n1_; have HB := n2_; clear n0_ n1_ n2_; (try clear hb); (try clear hb2); (try clear hk); (try clear hi); (try clear ho0); obtain ⟨Ao23, co23, eo23⟩ := Kd.R_slice HO389.out; subst eo23) | ((with_reducible refine gate_callee (f := 17) rfl ?_); refine goesL_ (some 24) rfl rfl Try.func17 (by kernel_rfl) rfl #[.slice Ao23 t387.length co23] rfl aM_ ?_; (with_reducible refine (impl_PolyOk.calls k _ _ t387 true _ ?side1 ?side2 A7.out).mono ?_); (case side1 => exact cR_ (Kd.R_reads' HO389.out).2.2); (case side2 => exact (Kd.R_reads' HO389.out).2.1); rintro e w' ⟨rfl, ⟨nd, rfl⟩⟩; refine ⟨_, rfl, ?_⟩; obtain ⟨Ao24, co24, eo24⟩ := Kd.R_slice HO392.out; subst eo24) | (go_at_call 18; (with_reducible refine (impl_SmallOk.calls k _ _ t390 true _ ?side1 ?side2 A9.out).mono ?_); (case side1 => exact cR_ (Kd.R_reads' HO392.out).2.2); (case side2 => exact (Kd.R_reads' HO392.out).2.1); rintro e w25 ⟨rfl, hb⟩; have n0_ := Aside0.mk (Kd.R_below (rR_ HO389.out) hb); have n1_ := Aside0.mk (Kd.R_below (rR_ HO392.out) hb); have n2_ := Aside0.mk (below_step (hB_) hb); clear HO389; clear HO392; clear HB; have HO389 := n0_; have HO392 := n1_; have HB := n2_; clear n0_ n1_ n2_; (try clear hb); (try clear hb2); (try clear hk); (try clear hi)) | (go_at_call 17; (with_reducible refine (impl_PolyOk.calls k _ _ t390 true _ ?side1 ?side2 A11.out).mono ?_); (case side1 => exact cR_ (Kd.R_reads' HO392.out).2.2); (case side2 => exact (Kd.R_reads' HO392.out).2.1); rintro e w' ⟨rfl, ⟨nd, rfl⟩⟩) | (go_at_call 13; (with_reducible refine (spec_Uniform.calls k t384 t385 t386 t396 _ A13.out).mono ?_); rintro e w26 ⟨v397, rfl, ho0, hb⟩; have n0_ := Aside0.mk (Kd.R_elder' (rR_ HO389.out) (Kd.R_base ho0) hb); have n1_ := Aside0.mk (Kd.R_elder' (rR_ HO392.out) (Kd.R_base ho0) hb); have n2_ := Aside0.mk (Kd.R_lower (Kd.R_new' (Kd.R_new' ho0 (Kd.R_lt (rR_ HO389.out))) (Kd.R_lt (rR_ HO392.out))) (below_size (hB_))); have n3_ := Aside0.mk (below_step (hB_) hb); clear HO389; clear HO392; clear HB; have HO389 := n0_; have HO392 := n1_; have HO398 := n2_; have HB := n3_; clear n0_ n1_ n2_ n3_; (try clear hb); (try clear hb2); (try clear hk); (try clear hi); (try clear ho0); obtain ⟨Ao27, co27, eo27⟩ := Kd.R_slice HO398.out; subst eo27) | (go_at_call 19; (with_reducible refine (laws_sameInts.calls k _ _ t387 _ _ t396 true _ ?side1 ?side2 ?side3 ?side4 A14.out).mono ?_); (case side1 => exact cR_ (Kd.R_reads' HO389.out).2.2); (case side2 => exact (Kd.R_reads' HO389.out).2.1); (case side3 => exact cR_ (Kd.R_reads' HO398.out).2.2); (case side4 => exact (Kd.R_reads' HO398.out).2.1); rintro e w' ⟨rfl, ⟨nd, rfl⟩⟩) | (go_at_call 8; (with_reducible refine (spec_Small.calls k t384 t385 t400 _ A16.out).mono ?_); rintro e w28 ⟨v401, rfl, ho0, hb⟩; have n0_ := Aside0.mk (Kd.R_elder' (rR_ HO389.out) (Kd.R_base ho0) hb); have n1_ := Aside0.mk (Kd.R_elder' (rR_ HO392.out) (Kd.R_base ho0) hb); have n2_ := Aside0.mk (Kd.R_elder' (rR_ HO398.out) (Kd.R_base ho0) hb); have n3_ := Aside0.mk (Kd.R_lower (Kd.R_new' (Kd.R_new' (Kd.R_new' ho0 (Kd.R_lt (rR_ HO389.out))) (Kd.R_lt (rR_ HO392.out))) (Kd.R_lt (rR_ HO398.out))) (below_size (hB_))); have n4_ := Aside0.mk (below_step (hB_) hb); clear HO389; clear HO392; clear HO398; clear HB; have HO389 := n0_; have HO392 := n1_; have HO398 := n2_; have HO402 := n3_; have HB := n4_; clear n0_ n1_ n2_ n3_ n4_; (try clear hb); (try clear hb2); (try clear hk); (try clear hi); (try clear ho0); obtain ⟨Ao29, co29, eo29⟩ := Kd.R_slice HO402.out; subst eo29) | (go_at_call 19; (with_reducible refine (laws_sameInts.calls k _ _ t390 _ _ t400 true _ ?side1 ?side2 ?side3 ?side4 A17.out).mono ?_); (case side1 => exact cR_ (Kd.R_reads' HO392.out).2.2); (case side2 => exact (Kd.R_reads' HO392.out).2.1); (case side3 => exact cR_ (Kd.R_reads' HO402.out).2.2); (case side4 => exact (Kd.R_reads' HO402.out).2.1); rintro e w' ⟨rfl, ⟨nd, rfl⟩⟩) | ((with_reducible refine gate_dst (N := 49) rfl ?_); (try (refine gate_guard (by rfl) ?_; dsimp only)); refine Kd.R_lit (Kd.int .i64) _ 3 ?hg (N := 49) ?hd (xs := ([1] : List Int)) (inner := [.int .i64 1]) (ok := fun _ => True) (okp := fun _ => True) ?hr ?hp (fun _ hk => hk) trivial (Below.refl _ _) (Nat.le_refl _) (by simp) ?_; (case hd => rfl); (case hg => rfl); (case hr => first | (go_simp; done) | (go_simp; rfl)); (case hp => exact (Reps.one (show Kd.M (Kd.int .i64) _ _ _ 1 [.int .i64 1] from rfl) (Reps.none _ _))); intro v405 w30 ho31 hb hg_ hnew_; clear hg_ hnew_; (first | rw [← Ny404.out] at ho31 | (simp only [Int.reduceToNat] at ho31; rw [← Ny404.out] at ho31)); have n0_ := Aside0.mk (Kd.R_elder' (rR_ HO389.out) (Kd.R_base ho31) hb); have n1_ := Aside0.mk (Kd.R_elder' (rR_ HO392.out) (Kd.R_base ho31) hb); have n2_ := Aside0.mk (Kd.R_elder' (rR_ HO398.out) (Kd.R_base ho31) hb); have n3_ := Aside0.mk (Kd.R_elder' (rR_ HO402.out) (Kd.R_base ho31) hb); have n4_ := Aside0.mk (Kd.R_lower (Kd.R_new' (Kd.R_new' (Kd.R_new' (Kd.R_new' ho31 (Kd.R_lt (rR_ HO389.out))) (Kd.R_lt (rR_ HO392.out))) (Kd.R_lt (rR_ HO398.out))) (Kd.R_lt (rR_ HO402.out))) (below_size (hB_))); have n5_ := Aside0.mk (below_step (hB_) hb); clear HO389; clear HO392; clear HO398; clear HO402; clear HB; have HO389 := n0_; have HO392 := n1_; have HO398 := n2_; have HO402 := n3_; have HO406 := n4_; have HB := n5_; clear n0_ n1_ n2_ n3_ n4_ n5_; clear hb ho31; obtain ⟨Ao32, co32, eo32⟩ := Kd.R_slice HO406.out; subst eo32) | (go_at_call 18; (with_reducible refine (impl_SmallOk.calls k _ _ y404 t407 _ ?side1 ?side2 A19.out).mono ?_); (case side1 => exact cR_ (Kd.R_reads' HO406.out).2.2); (case side2 => exact (Kd.R_reads' HO406.out).2.1); rintro e w33 ⟨rfl, hb⟩; have n0_ := Aside0.mk (Kd.R_below (rR_ HO389.out) hb); have n1_ := Aside0.mk (Kd.R_below (rR_ HO392.out) hb); have n2_ := Aside0.mk (Kd.R_below (rR_ HO398.out) hb); have n3_ := Aside0.mk (Kd.R_below (rR_ HO402.out) hb); have n4_ := Aside0.mk (Kd.R_below (rR_ HO406.out) hb); have n5_ := Aside0.mk (below_step (hB_) hb); clear HO389; clear HO392; clear HO398; clear HO402; clear HO406; clear HB; have HO389 := n0_; have HO392 := n1_; have HO398 := n2_; have HO402 := n3_; have HO406 := n4_; have HB := n5_; clear n0_ n1_ n2_ n3_ n4_ n5_; (try clear hb); (try clear hb2); (try clear hk); (try clear hi)))
       go_ret
       exact ⟨by first | rfl | (simp [errW_none, errW_some] <;> rfl) | (simp [*, errW_none, errW_some] <;> rfl), hB_⟩
      ·replace c18 := Bool.eq_false_iff.mpr c18
       subst c18
       have H1 : (none) = some r := by rw [if_neg (show ¬ (false = true) by decide)] at H; exact H
       clear H
       have H := H1
       clear H1
       exact absurd H (by simp)
     ·replace c15 := Bool.eq_false_iff.mpr c15
      subst c15
      have H1 : (none) = some r := by rw [if_neg (show ¬ (false = true) by decide)] at H; exact H
      clear H
      have H := H1
      clear H1
      exact absurd H (by simp)
    ·replace c12 := Bool.eq_false_iff.mpr c12
     subst c12
     have H1 : (none) = some r := by rw [if_neg (show ¬ (false = true) by decide)] at H; exact H
     clear H
     have H := H1
     clear H1
     exact absurd H (by simp)
   ·replace c10 := Bool.eq_false_iff.mpr c10
    subst c10
    have H1 : (none) = some r := by rw [if_neg (show ¬ (false = true) by decide)] at H; exact H
    clear H
    have H := H1
    clear H1
    exact absurd H (by simp)
  ·replace c8 := Bool.eq_false_iff.mpr c8
   subst c8
   have H1 : (none) = some r := by rw [if_neg (show ¬ (false = true) by decide)] at H; exact H
   clear H
   have H := H1
   clear H1
   exact absurd H (by simp)

/-- THE ONE PURE STATEMENT of laws_FnSamples: yours. -/
def laws_FnSamples.Pure : Prop := ∀ (l0 : List Int), l0.length ≤ maxLen → l0.length * 1 ≤ 140737488351232 → (∀ x ∈ l0, (Lit.int .u8 x).wf = true) → ∃ k, laws_FnSamples.f k l0 = some true
theorem laws_FnSamples.walk (P : laws_FnSamples.Pure) (a0 : Option Addr) (len0 cap0 : Nat) (z0 : List Int) (w : World) (w0 : (a0 = none ∧ len0 = 0 ∧ cap0 = 0 ∧ z0 = []) ∨ ∃ x, a0 = some x ∧ len0 ≤ cap0 ∧ cap0 ≤ maxLen ∧ z0.length = cap0 ∧ (∀ i, i < z0.length → w.cell? (x.add i) = some (.int .u8 (z0.getD i 0))) ∧ ∀ n ∈ z0, (Lit.int .u8 n).wf = true) (y0 : len0 * 1 ≤ 140737488351232) :
  Calls Try.prog 5 #[.slice a0 len0 cap0] w fun e w' => e = .returned (.bool true) ∧ Below w.heap.size w w' := by
 obtain ⟨l0, rfl, hr0, hm0, hw0, hc0⟩ := ReadsInt.ofRowC w0
 obtain ⟨k, h⟩ := P l0 hm0 y0 hw0
 refine (laws_FnSamples.calls k _ _ l0 true w (Kd.C_of_reads (d := (0 : Int)) (h1 := fun _ => rfl) hr0) hc0 h).mono ?_
 rintro e w' ⟨rfl, hd⟩
 exact ⟨rfl, hd⟩

end Go.Proofs.Ytnckhligcdieaaa.P
