-- printed texts of this session, regrouped
import Derived.Test.YtjcmafoepabpkaaDoorHA6
import Derived.Test.YtjcmafoepabpkaaDoorPx0
import Derived.Test.YtjcmafoepabpkaaDoorPx5
import Derived.Test.YtjcmafoepabpkaaDoorPx9
import Derived.Test.YtjcmafoepabpkaaDoorPx27
import Derived.Test.YtjcmafoepabpkaaDoorPx28
import Derived.Test.YtjcmafoepabpkaaDoorPx29
namespace Go.Proofs.YtjcmafoepabpkaaDoor.P
open Go.RowKit Go.Proofs.YtjcmafoepabpkaaDoorW.PrintWords Go.Proofs.YtjcmafoepabpkaaDoorW.PrintLast Go.Proofs.YtjcmafoepabpkaaDoorW.PrintMore
attribute [local go_sem] max2_int min2_int max_two min_two max_three min_three max_four min_four   -- for this text's walks alone
set_option linter.unusedVariables false
set_option linter.unusedSimpArgs false

/-! ### laws_FnOnce: function 5 -/
def laws_FnOnce.f (k : Nat) (l0 : List Int) : Option (Bool) := (laws_big.f l0).bind fun t424 => (if t424 = true then (some true) else ((spec_DrawOnceSign.f k l0).bind fun bt425 => ((impl_OnceSign.f k bt425.1 bt425.2.1 bt425.2.2).bind fun t430 => ((impl_OncePublic.f k bt425.1 bt425.2.1).bind fun t433 => (if (bt425.1.length : Int) = 10 then ((impl_OnceKey.f k (⟨#[115, 101, 101, 100]⟩ : ByteArray) bt425.2.1).bind fun t434 => ((impl_OnceFound.f k t430 bt425.2.1 bt425.2.2).bind fun t437 => (if t437.toList = t433.toList then (if (t433.size : Int) = 4 then ((spec_OncePublic.f k bt425.1 bt425.2.1).bind fun t438 => (if t433.toList = t438.toList then (if (t434.length : Int) = 10 then ((spec_OnceKey.f k (⟨#[115, 101, 101, 100]⟩ : ByteArray) bt425.2.1).bind fun t439 => ((laws_sameTexts.f k t434 t439).bind fun t442 => (some t442))) else (none)) else (none))) else (none)) else (none)))) else (if (t430.length : Int) = 0 then (some (t433.toList == ([] : List UInt8))) else (none)))))))
theorem laws_FnOnce.mono : ∀ a0 k, LeO (laws_FnOnce.f k a0) (laws_FnOnce.f (k + 1) a0) := by
 intro a0 k
 unfold laws_FnOnce.f
 repeat' first
   | (with_reducible exact impl_OnceFound.mono _ _ _ _)
   | (with_reducible exact impl_OnceKey.mono _ _ _)
   | (with_reducible exact impl_OncePublic.mono _ _ _)
   | (with_reducible exact impl_OnceSign.mono _ _ _ _)
   | (with_reducible exact laws_sameTexts.mono _ _ _)
   | (with_reducible exact spec_DrawOnceSign.mono _ _)
   | (with_reducible exact spec_OnceKey.mono _ _ _)
   | (with_reducible exact spec_OncePublic.mono _ _ _)
   | (with_reducible exact LeO.refl _)
   | (with_reducible exact LeO.none _)
   | (with_reducible refine LeO.ite ?_ ?_)
   | (with_reducible refine LeO.bind ?_ (fun _ => ?_))
   | exact impl_OnceFound.mono _ _ _ _
   | exact impl_OnceKey.mono _ _ _
   | exact impl_OncePublic.mono _ _ _
   | exact impl_OnceSign.mono _ _ _ _
   | exact laws_sameTexts.mono _ _ _
   | exact spec_DrawOnceSign.mono _ _
   | exact spec_OnceKey.mono _ _ _
   | exact spec_OncePublic.mono _ _ _
   | exact LeO.none _
   | refine LeO.ite ?_ ?_
   | refine LeO.bind ?_ (fun _ => ?_)
set_option maxHeartbeats 8000000 in
set_option maxRecDepth 100000 in
theorem laws_FnOnce.calls (k : Nat) (A0 : Option Addr) (c0 : Nat) (l0 : List Int) (r : Bool) (w : World) (hr0 : Kd.C (Kd.int .u8) w A0 l0.length l0) (hc0 : l0.length ≤ c0) (h : laws_FnOnce.f k l0 = some r) (hLD : Laid w) :
  Calls Tryd.prog 5 #[.slice A0 l0.length c0] w fun e w' => e = .returned (.bool r) ∧ Below w.heap.size w w' := by
 have HLD := Aside0.mk hLD
 clear hLD
 have HR0 := Aside0.mk hr0
 have HC0 := Aside0.mk hc0
 clear hr0 hc0
 have HB := Aside0.mk (Below.refl w.heap.size w)
 have H : ((laws_big.f l0).bind fun t424 => (if t424 = true then (some true) else ((spec_DrawOnceSign.f k l0).bind fun bt425 => ((impl_OnceSign.f k bt425.1 bt425.2.1 bt425.2.2).bind fun t430 => ((impl_OncePublic.f k bt425.1 bt425.2.1).bind fun t433 => (if (bt425.1.length : Int) = 10 then ((impl_OnceKey.f k (⟨#[115, 101, 101, 100]⟩ : ByteArray) bt425.2.1).bind fun t434 => ((impl_OnceFound.f k t430 bt425.2.1 bt425.2.2).bind fun t437 => (if t437.toList = t433.toList then (if (t433.size : Int) = 4 then ((spec_OncePublic.f k bt425.1 bt425.2.1).bind fun t438 => (if t433.toList = t438.toList then (if (t434.length : Int) = 10 then ((spec_OnceKey.f k (⟨#[115, 101, 101, 100]⟩ : ByteArray) bt425.2.1).bind fun t439 => ((laws_sameTexts.f k t434 t439).bind fun t442 => (some t442))) else (none)) else (none))) else (none)) else (none)))) else (if (t430.length : Int) = 0 then (some (t433.toList == ([] : List UInt8))) else (none)))))))) = some r := h
 clear h
 replace H := Option.bind_eq_some_iff.mp H
 obtain ⟨t424, A20, H⟩ := H
 replace H : (if t424 = true then (some true) else ((spec_DrawOnceSign.f k l0).bind fun bt425 => ((impl_OnceSign.f k bt425.1 bt425.2.1 bt425.2.2).bind fun t430 => ((impl_OncePublic.f k bt425.1 bt425.2.1).bind fun t433 => (if (bt425.1.length : Int) = 10 then ((impl_OnceKey.f k (⟨#[115, 101, 101, 100]⟩ : ByteArray) bt425.2.1).bind fun t434 => ((impl_OnceFound.f k t430 bt425.2.1 bt425.2.2).bind fun t437 => (if t437.toList = t433.toList then (if (t433.size : Int) = 4 then ((spec_OncePublic.f k bt425.1 bt425.2.1).bind fun t438 => (if t433.toList = t438.toList then (if (t434.length : Int) = 10 then ((spec_OnceKey.f k (⟨#[115, 101, 101, 100]⟩ : ByteArray) bt425.2.1).bind fun t439 => ((laws_sameTexts.f k t434 t439).bind fun t442 => (some t442))) else (none)) else (none))) else (none)) else (none)))) else (if (t430.length : Int) = 0 then (some (t433.toList == ([] : List UInt8))) else (none))))))) = some r := H
 have A2 := Aside0.mk A20
 clear A20
 by_cases c3 : t424 = true
 ·subst c3
  have H1 : (some true) = some r := by rw [if_pos rfl] at H; exact H
  clear H
  have H := H1
  clear H1
  obtain rfl := Option.some.inj H
  go_enter Tryd.func5, Tryd.ntmps5
  go_wp2_with (first | ((with_reducible refine gate_callee (f := 20) rfl ?_); refine goesL_ (some 10) rfl rfl Tryd.func20 (by kernel_rfl) rfl #[.slice A0 l0.length c0] rfl (by (try simp only [List.map_toArray, List.map_cons, List.map_nil]); first | done | rfl | (simp only [List.length_drop, List.length_take]; rfl)) ?_; (with_reducible refine (laws_big.calls _ _ l0 true _ ?side1 ?side2 A2.out).mono ?_); (case side1 => repeat (first | exact HR0.out | (with_reducible refine Kd.C_alloc ?_ _) | (with_reducible refine Kd.C_drewN ?_ _) | (with_reducible refine Kd.C_drew ?_))); (case side2 => exact HC0.out); rintro e w' ⟨rfl, ⟨nd, rfl⟩⟩; refine ⟨_, rfl, ?_⟩))
  go_ret
  exact ⟨by first | rfl | (simp [errW_none, errW_some] <;> rfl) | (simp [*, errW_none, errW_some] <;> rfl), by repeat (first | (with_reducible first | exact HB.out | apply below_alloc | apply pw_below_drewN | apply below_drew1) | exact HB.out)⟩
 ·replace c3 := Bool.eq_false_iff.mpr c3
  subst c3
  have H1 : ((spec_DrawOnceSign.f k l0).bind fun bt425 => ((impl_OnceSign.f k bt425.1 bt425.2.1 bt425.2.2).bind fun t430 => ((impl_OncePublic.f k bt425.1 bt425.2.1).bind fun t433 => (if (bt425.1.length : Int) = 10 then ((impl_OnceKey.f k (⟨#[115, 101, 101, 100]⟩ : ByteArray) bt425.2.1).bind fun t434 => ((impl_OnceFound.f k t430 bt425.2.1 bt425.2.2).bind fun t437 => (if t437.toList = t433.toList then (if (t433.size : Int) = 4 then ((spec_OncePublic.f k bt425.1 bt425.2.1).bind fun t438 => (if t433.toList = t438.toList then (if (t434.length : Int) = 10 then ((spec_OnceKey.f k (⟨#[115, 101, 101, 100]⟩ : ByteArray) bt425.2.1).bind fun t439 => ((laws_sameTexts.f k t434 t439).bind fun t442 => (some t442))) else (none)) else (none))) else (none)) else (none)))) else (if (t430.length : Int) = 0 then (some (t433.toList == ([] : List UInt8))) else (none)))))) = some r := by rw [if_neg (show ¬ (false = true) by decide)] at H; exact H
  clear H
  have H := H1
  clear H1
  replace H := Option.bind_eq_some_iff.mp H
  obtain ⟨⟨t425, t426, t427⟩, A40, H⟩ := H
  replace H : ((impl_OnceSign.f k t425 t426 t427).bind fun t430 => ((impl_OncePublic.f k t425 t426).bind fun t433 => (if (t425.length : Int) = 10 then ((impl_OnceKey.f k (⟨#[115, 101, 101, 100]⟩ : ByteArray) t426).bind fun t434 => ((impl_OnceFound.f k t430 t426 t427).bind fun t437 => (if t437.toList = t433.toList then (if (t433.size : Int) = 4 then ((spec_OncePublic.f k t425 t426).bind fun t438 => (if t433.toList = t438.toList then (if (t434.length : Int) = 10 then ((spec_OnceKey.f k (⟨#[115, 101, 101, 100]⟩ : ByteArray) t426).bind fun t439 => ((laws_sameTexts.f k t434 t439).bind fun t442 => (some t442))) else (none)) else (none))) else (none)) else (none)))) else (if (t430.length : Int) = 0 then (some (t433.toList == ([] : List UInt8))) else (none))))) = some r := H
  have A4 := Aside0.mk A40
  clear A40
  replace H := Option.bind_eq_some_iff.mp H
  obtain ⟨t430, A50, H⟩ := H
  replace H : ((impl_OncePublic.f k t425 t426).bind fun t433 => (if (t425.length : Int) = 10 then ((impl_OnceKey.f k (⟨#[115, 101, 101, 100]⟩ : ByteArray) t426).bind fun t434 => ((impl_OnceFound.f k t430 t426 t427).bind fun t437 => (if t437.toList = t433.toList then (if (t433.size : Int) = 4 then ((spec_OncePublic.f k t425 t426).bind fun t438 => (if t433.toList = t438.toList then (if (t434.length : Int) = 10 then ((spec_OnceKey.f k (⟨#[115, 101, 101, 100]⟩ : ByteArray) t426).bind fun t439 => ((laws_sameTexts.f k t434 t439).bind fun t442 => (some t442))) else (none)) else (none))) else (none)) else (none)))) else (if (t430.length : Int) = 0 then (some (t433.toList == ([] : List UInt8))) else (none)))) = some r := H
  have A5 := Aside0.mk A50
  clear A50
  replace H := Option.bind_eq_some_iff.mp H
  obtain ⟨t433, A60, H⟩ := H
  replace H : (if (t425.length : Int) = 10 then ((impl_OnceKey.f k (⟨#[115, 101, 101, 100]⟩ : ByteArray) t426).bind fun t434 => ((impl_OnceFound.f k t430 t426 t427).bind fun t437 => (if t437.toList = t433.toList then (if (t433.size : Int) = 4 then ((spec_OncePublic.f k t425 t426).bind fun t438 => (if t433.toList = t438.toList then (if (t434.length : Int) = 10 then ((spec_OnceKey.f k (⟨#[115, 101, 101, 100]⟩ : ByteArray) t426).bind fun t439 => ((laws_sameTexts.f k t434 t439).bind fun t442 => (some t442))) else (none)) else (none))) else (none)) else (none)))) else (if (t430.length : Int) = 0 then (some (t433.toList == ([] : List UInt8))) else (none))) = some r := H
  have A6 := Aside0.mk A60
  clear A60
  by_cases c7 : (t425.length : Int) = 10
  ·rw [if_pos c7] at H
   have c7b0 : ((t425.length : Int) == 10) = true := beq_iff_eq.mpr c7
   have c7b1 : ((t425.length : Int) != 10) = false := bne_eq_false_iff_eq.mpr c7
   clear c7
   replace H := Option.bind_eq_some_iff.mp H
   obtain ⟨t434, A80, H⟩ := H
   replace H : ((impl_OnceFound.f k t430 t426 t427).bind fun t437 => (if t437.toList = t433.toList then (if (t433.size : Int) = 4 then ((spec_OncePublic.f k t425 t426).bind fun t438 => (if t433.toList = t438.toList then (if (t434.length : Int) = 10 then ((spec_OnceKey.f k (⟨#[115, 101, 101, 100]⟩ : ByteArray) t426).bind fun t439 => ((laws_sameTexts.f k t434 t439).bind fun t442 => (some t442))) else (none)) else (none))) else (none)) else (none))) = some r := H
   have A8 := Aside0.mk A80
   clear A80
   replace H := Option.bind_eq_some_iff.mp H
   obtain ⟨t437, A90, H⟩ := H
   replace H : (if t437.toList = t433.toList then (if (t433.size : Int) = 4 then ((spec_OncePublic.f k t425 t426).bind fun t438 => (if t433.toList = t438.toList then (if (t434.length : Int) = 10 then ((spec_OnceKey.f k (⟨#[115, 101, 101, 100]⟩ : ByteArray) t426).bind fun t439 => ((laws_sameTexts.f k t434 t439).bind fun t442 => (some t442))) else (none)) else (none))) else (none)) else (none)) = some r := H
   have A9 := Aside0.mk A90
   clear A90
   by_cases c10 : t437.toList = t433.toList
   ·rw [if_pos c10] at H
    have c10b0 : (t437.toList == t433.toList) = true := beq_iff_eq.mpr c10
    have c10b1 : (t437.toList != t433.toList) = false := bne_eq_false_iff_eq.mpr c10
    clear c10
    by_cases c11 : (t433.size : Int) = 4
    ·rw [if_pos c11] at H
     have c11b0 : ((t433.size : Int) == 4) = true := beq_iff_eq.mpr c11
     have c11b1 : ((t433.size : Int) != 4) = false := bne_eq_false_iff_eq.mpr c11
     clear c11
     replace H := Option.bind_eq_some_iff.mp H
     obtain ⟨t438, A120, H⟩ := H
     replace H : (if t433.toList = t438.toList then (if (t434.length : Int) = 10 then ((spec_OnceKey.f k (⟨#[115, 101, 101, 100]⟩ : ByteArray) t426).bind fun t439 => ((laws_sameTexts.f k t434 t439).bind fun t442 => (some t442))) else (none)) else (none)) = some r := H
     have A12 := Aside0.mk A120
     clear A120
     by_cases c13 : t433.toList = t438.toList
     ·rw [if_pos c13] at H
      have c13b0 : (t433.toList == t438.toList) = true := beq_iff_eq.mpr c13
      have c13b1 : (t433.toList != t438.toList) = false := bne_eq_false_iff_eq.mpr c13
      clear c13
      by_cases c14 : (t434.length : Int) = 10
      ·rw [if_pos c14] at H
       have c14b0 : ((t434.length : Int) == 10) = true := beq_iff_eq.mpr c14
       have c14b1 : ((t434.length : Int) != 10) = false := bne_eq_false_iff_eq.mpr c14
       clear c14
       replace H := Option.bind_eq_some_iff.mp H
       obtain ⟨t439, A150, H⟩ := H
       replace H : ((laws_sameTexts.f k t434 t439).bind fun t442 => (some t442)) = some r := H
       have A15 := Aside0.mk A150
       clear A150
       replace H := Option.bind_eq_some_iff.mp H
       obtain ⟨t442, A160, H⟩ := H
       replace H : (some t442) = some r := H
       have A16 := Aside0.mk A160
       clear A160
       obtain rfl := Option.some.inj H
       go_enter Tryd.func5, Tryd.ntmps5
       go_wp2_with (first | ((with_reducible refine gate_callee (f := 20) rfl ?_); refine goesL_ (some 10) rfl rfl Tryd.func20 (by kernel_rfl) rfl #[.slice A0 l0.length c0] rfl (by (try simp only [List.map_toArray, List.map_cons, List.map_nil]); first | done | rfl | (simp only [List.length_drop, List.length_take]; rfl)) ?_; (with_reducible refine (laws_big.calls _ _ l0 false _ ?side1 ?side2 A2.out).mono ?_); (case side1 => repeat (first | exact HR0.out | (with_reducible refine Kd.C_alloc ?_ _) | (with_reducible refine Kd.C_drewN ?_ _) | (with_reducible refine Kd.C_drew ?_))); (case side2 => exact HC0.out); rintro e w' ⟨rfl, ⟨nd, rfl⟩⟩; refine ⟨_, rfl, ?_⟩) | ((with_reducible refine gate_callee (f := 21) rfl ?_); refine goesL_ (some 13) rfl rfl Tryd.func21 (by kernel_rfl) rfl #[.slice A0 l0.length c0] rfl (by (try simp only [List.map_toArray, List.map_cons, List.map_nil]); first | done | rfl | (simp only [List.length_drop, List.length_take]; rfl)) ?_; (with_reducible refine (spec_DrawOnceSign.calls k _ _ l0 t425 t426 t427 _ ?side1 ?side2 A4.out).mono ?_); (case side1 => repeat (first | exact HR0.out | (with_reducible refine Kd.C_alloc ?_ _) | (with_reducible refine Kd.C_drewN ?_ _) | (with_reducible refine Kd.C_drew ?_))); (case side2 => exact HC0.out); rintro e w17 ⟨v428, rfl, ho0, hb⟩; refine ⟨_, rfl, ?_⟩; have n0_ := Aside0.mk (Kd.Q_lower ho0 (below_size (by repeat (first | (with_reducible first | exact HB.out | apply below_alloc | apply pw_below_drewN | apply below_drew1) | exact HB.out)))); have n1_ := Aside0.mk (below_step (by repeat (first | (with_reducible first | exact HB.out | apply below_alloc | apply pw_below_drewN | apply below_drew1) | exact HB.out)) hb); clear HB; have HO429 := n0_; have HB := n1_; clear n0_ n1_; (try clear hb); (try clear hb2); (try clear hk); (try clear hi); (try clear ho0); obtain ⟨Ao18, co18, eo18, _⟩ := Kd.Q_slice HO429.out; subst eo18) | ((with_reducible refine gate_callee (f := 22) rfl ?_); refine goesL_ (some 20) rfl rfl Tryd.func22 (by kernel_rfl) rfl #[.slice Ao18 t425.length co18, .int .i64 t426, .string t427] rfl (by (try simp only [List.map_toArray, List.map_cons, List.map_nil]); first | done | rfl | (simp only [List.length_drop, List.length_take]; rfl)) ?_; (with_reducible refine (impl_OnceSign.calls k _ _ t425 t426 t427 t430 _ ?side1 ?side2 A5.out (HLD.out.below HLD.out.pos (by repeat (first | (with_reducible first | exact HB.out | apply below_alloc | apply pw_below_drewN | apply below_drew1) | exact HB.out)))).mono ?_); (case side1 => repeat (first | exact (Kd.Q_reads' HO429.out).2.2 | (with_reducible refine Kd.C_alloc ?_ _) | (with_reducible refine Kd.C_drewN ?_ _) | (with_reducible refine Kd.C_drew ?_))); (case side2 => exact (Kd.Q_reads' HO429.out).2.1); rintro e w19 ⟨v431, rfl, ho0, hb⟩; refine ⟨_, rfl, ?_⟩; have n0_ := Aside0.mk (Kd.Q_elder' (by (with_reducible repeat (first | apply Kd.Q_alloc | apply Kd.Q_drewN | apply Kd.Q_drew)); exact HO429.out) (Kd.R_base ho0) hb); have n1_ := Aside0.mk (Kd.R_lower (Kd.R_new' ho0 (Kd.Q_lt (by (with_reducible repeat (first | apply Kd.Q_alloc | apply Kd.Q_drewN | apply Kd.Q_drew)); exact HO429.out))) (below_size (by repeat (first | (with_reducible first | exact HB.out | apply below_alloc | apply pw_below_drewN | apply below_drew1) | exact HB.out)))); have n2_ := Aside0.mk (below_step (by repeat (first | (with_reducible first | exact HB.out | apply below_alloc | apply pw_below_drewN | apply below_drew1) | exact HB.out)) hb); clear HO429; clear HB; have HO429 := n0_; have HO432 := n1_; have HB := n2_; clear n0_ n1_ n2_; (try clear hb); (try clear hb2); (try clear hk); (try clear hi); (try clear ho0)) | ((with_reducible refine gate_callee (f := 23) rfl ?_); refine goesL_ (some 23) rfl rfl Tryd.func23 (by kernel_rfl) rfl #[.slice Ao18 t425.length co18, .int .i64 t426] rfl (by (try simp only [List.map_toArray, List.map_cons, List.map_nil]); first | done | rfl | (simp only [List.length_drop, List.length_take]; rfl)) ?_; (with_reducible refine (impl_OncePublic.calls k _ _ t425 t426 t433 _ ?side1 ?side2 A6.out (HLD.out.below HLD.out.pos (by repeat (first | (with_reducible first | exact HB.out | apply below_alloc | apply pw_below_drewN | apply below_drew1) | exact HB.out)))).mono ?_); (case side1 => repeat (first | exact (Kd.Q_reads' HO429.out).2.2 | (with_reducible refine Kd.C_alloc ?_ _) | (with_reducible refine Kd.C_drewN ?_ _) | (with_reducible refine Kd.C_drew ?_))); (case side2 => exact (Kd.Q_reads' HO429.out).2.1); rintro e w20 ⟨rfl, hb⟩; refine ⟨_, rfl, ?_⟩; have n0_ := Aside0.mk (Kd.Q_below (by (with_reducible repeat (first | apply Kd.Q_alloc | apply Kd.Q_drewN | apply Kd.Q_drew)); exact HO429.out) hb); have n1_ := Aside0.mk (Kd.R_below (by (with_reducible repeat (first | apply Kd.R_alloc | apply Kd.R_drewN | apply Kd.R_drew)); exact HO432.out) hb); have n2_ := Aside0.mk (below_step (by repeat (first | (with_reducible first | exact HB.out | apply below_alloc | apply pw_below_drewN | apply below_drew1) | exact HB.out)) hb); clear HO429; clear HO432; clear HB; have HO429 := n0_; have HO432 := n1_; have HB := n2_; clear n0_ n1_ n2_; (try clear hb); (try clear hb2); (try clear hk); (try clear hi)) | ((with_reducible refine gate_callee (f := 24) rfl ?_); refine goesL_ (some 35) rfl rfl Tryd.func24 (by kernel_rfl) rfl #[.string (⟨#[115, 101, 101, 100]⟩ : ByteArray), .int .i64 t426] rfl (by (try simp only [List.map_toArray, List.map_cons, List.map_nil]); first | done | rfl | (simp only [List.length_drop, List.length_take]; rfl)) ?_; (with_reducible refine (impl_OnceKey.calls k (⟨#[115, 101, 101, 100]⟩ : ByteArray) t426 t434 _ A8.out (HLD.out.below HLD.out.pos (by repeat (first | (with_reducible first | exact HB.out | apply below_alloc | apply pw_below_drewN | apply below_drew1) | exact HB.out)))).mono ?_); rintro e w21 ⟨v435, rfl, ho0, hb⟩; refine ⟨_, rfl, ?_⟩; have n0_ := Aside0.mk (Kd.Q_elder' (by (with_reducible repeat (first | apply Kd.Q_alloc | apply Kd.Q_drewN | apply Kd.Q_drew)); exact HO429.out) (Kd.R_base ho0) hb); have n1_ := Aside0.mk (Kd.R_elder' (by (with_reducible repeat (first | apply Kd.R_alloc | apply Kd.R_drewN | apply Kd.R_drew)); exact HO432.out) (Kd.R_base ho0) hb); have n2_ := Aside0.mk (Kd.R_lower (Kd.R_new' (Kd.R_new' ho0 (Kd.Q_lt (by (with_reducible repeat (first | apply Kd.Q_alloc | apply Kd.Q_drewN | apply Kd.Q_drew)); exact HO429.out))) (Kd.R_lt (by (with_reducible repeat (first | apply Kd.R_alloc | apply Kd.R_drewN | apply Kd.R_drew)); exact HO432.out))) (below_size (by repeat (first | (with_reducible first | exact HB.out | apply below_alloc | apply pw_below_drewN | apply below_drew1) | exact HB.out)))); have n3_ := Aside0.mk (below_step (by repeat (first | (with_reducible first | exact HB.out | apply below_alloc | apply pw_below_drewN | apply below_drew1) | exact HB.out)) hb); clear HO429; clear HO432; clear HB; have HO429 := n0_; have HO432 := n1_; have HO436 := n2_; have HB := n3_; clear n0_ n1_ n2_ n3_; (try clear hb); (try clear hb2); (try clear hk); (try clear hi); (try clear ho0); obtain ⟨Ao22, co22, eo22⟩ := Kd.R_slice HO432.out; subst eo22) | ((with_reducible refine gate_callee (f := 18) rfl ?_); refine goesL_ (some 39) rfl rfl Tryd.func18 (by kernel_rfl) rfl #[.slice Ao22 t430.length co22, .int .i64 t426, .string t427] rfl (by (try simp only [List.map_toArray, List.map_cons, List.map_nil]); first | done | rfl | (simp only [List.length_drop, List.length_take]; rfl)) ?_; (with_reducible refine (impl_OnceFound.calls k _ _ t430 t426 t427 t437 _ ?side1 ?side2 A9.out (HLD.out.below HLD.out.pos (by repeat (first | (with_reducible first | exact HB.out | apply below_alloc | apply pw_below_drewN | apply below_drew1) | exact HB.out)))).mono ?_); (case side1 => repeat (first | exact (Kd.R_reads' HO432.out).2.2 | (with_reducible refine Kd.C_alloc ?_ _) | (with_reducible refine Kd.C_drewN ?_ _) | (with_reducible refine Kd.C_drew ?_))); (case side2 => exact (Kd.R_reads' HO432.out).2.1); rintro e w23 ⟨rfl, hb⟩; refine ⟨_, rfl, ?_⟩; have n0_ := Aside0.mk (Kd.Q_below (by (with_reducible repeat (first | apply Kd.Q_alloc | apply Kd.Q_drewN | apply Kd.Q_drew)); exact HO429.out) hb); have n1_ := Aside0.mk (Kd.R_below (by (with_reducible repeat (first | apply Kd.R_alloc | apply Kd.R_drewN | apply Kd.R_drew)); exact HO432.out) hb); have n2_ := Aside0.mk (Kd.R_below (by (with_reducible repeat (first | apply Kd.R_alloc | apply Kd.R_drewN | apply Kd.R_drew)); exact HO436.out) hb); have n3_ := Aside0.mk (below_step (by repeat (first | (with_reducible first | exact HB.out | apply below_alloc | apply pw_below_drewN | apply below_drew1) | exact HB.out)) hb); clear HO429; clear HO432; clear HO436; clear HB; have HO429 := n0_; have HO432 := n1_; have HO436 := n2_; have HB := n3_; clear n0_ n1_ n2_ n3_; (try clear hb); (try clear hb2); (try clear hk); (try clear hi)) | (go_at_call 25; (with_reducible refine (spec_OncePublic.calls k _ _ t425 t426 t438 _ ?side1 ?side2 A12.out).mono ?_); (case side1 => repeat (first | exact (Kd.Q_reads' HO429.out).2.2 | (with_reducible refine Kd.C_alloc ?_ _) | (with_reducible refine Kd.C_drewN ?_ _) | (with_reducible refine Kd.C_drew ?_))); (case side2 => exact (Kd.Q_reads' HO429.out).2.1); rintro e w24 ⟨rfl, hb⟩; have n0_ := Aside0.mk (Kd.Q_below (by (with_reducible repeat (first | apply Kd.Q_alloc | apply Kd.Q_drewN | apply Kd.Q_drew)); exact HO429.out) hb); have n1_ := Aside0.mk (Kd.R_below (by (with_reducible repeat (first | apply Kd.R_alloc | apply Kd.R_drewN | apply Kd.R_drew)); exact HO432.out) hb); have n2_ := Aside0.mk (Kd.R_below (by (with_reducible repeat (first | apply Kd.R_alloc | apply Kd.R_drewN | apply Kd.R_drew)); exact HO436.out) hb); have n3_ := Aside0.mk (below_step (by repeat (first | (with_reducible first | exact HB.out | apply below_alloc | apply pw_below_drewN | apply below_drew1) | exact HB.out)) hb); clear HO429; clear HO432; clear HO436; clear HB; have HO429 := n0_; have HO432 := n1_; have HO436 := n2_; have HB := n3_; clear n0_ n1_ n2_ n3_; (try clear hb); (try clear hb2); (try clear hk); (try clear hi); obtain ⟨Ao25, co25, eo25⟩ := Kd.R_slice HO436.out; subst eo25) | (go_at_call 27; (with_reducible refine (spec_OnceKey.calls k (⟨#[115, 101, 101, 100]⟩ : ByteArray) t426 t439 _ A15.out).mono ?_); rintro e w26 ⟨v440, rfl, ho0, hb⟩; have n0_ := Aside0.mk (Kd.Q_elder' (by (with_reducible repeat (first | apply Kd.Q_alloc | apply Kd.Q_drewN | apply Kd.Q_drew)); exact HO429.out) (Kd.R_base ho0) hb); have n1_ := Aside0.mk (Kd.R_elder' (by (with_reducible repeat (first | apply Kd.R_alloc | apply Kd.R_drewN | apply Kd.R_drew)); exact HO432.out) (Kd.R_base ho0) hb); have n2_ := Aside0.mk (Kd.R_elder' (by (with_reducible repeat (first | apply Kd.R_alloc | apply Kd.R_drewN | apply Kd.R_drew)); exact HO436.out) (Kd.R_base ho0) hb); have n3_ := Aside0.mk (Kd.R_lower (Kd.R_new' (Kd.R_new' (Kd.R_new' ho0 (Kd.Q_lt (by (with_reducible repeat (first | apply Kd.Q_alloc | apply Kd.Q_drewN | apply Kd.Q_drew)); exact HO429.out))) (Kd.R_lt (by (with_reducible repeat (first | apply Kd.R_alloc | apply Kd.R_drewN | apply Kd.R_drew)); exact HO432.out))) (Kd.R_lt (by (with_reducible repeat (first | apply Kd.R_alloc | apply Kd.R_drewN | apply Kd.R_drew)); exact HO436.out))) (below_size (by repeat (first | (with_reducible first | exact HB.out | apply below_alloc | apply pw_below_drewN | apply below_drew1) | exact HB.out)))); have n4_ := Aside0.mk (below_step (by repeat (first | (with_reducible first | exact HB.out | apply below_alloc | apply pw_below_drewN | apply below_drew1) | exact HB.out)) hb); clear HO429; clear HO432; clear HO436; clear HB; have HO429 := n0_; have HO432 := n1_; have HO436 := n2_; have HO441 := n3_; have HB := n4_; clear n0_ n1_ n2_ n3_ n4_; (try clear hb); (try clear hb2); (try clear hk); (try clear hi); (try clear ho0); obtain ⟨Ao27, co27, eo27⟩ := Kd.R_slice HO441.out; subst eo27) | (go_at_call 26; (with_reducible refine (laws_sameTexts.calls k _ _ t434 _ _ t439 t442 _ ?side1 ?side2 ?side3 ?side4 A16.out).mono ?_); (case side1 => repeat (first | exact (Kd.R_reads' HO436.out).2.2 | (with_reducible refine Kd.C_alloc ?_ _) | (with_reducible refine Kd.C_drewN ?_ _) | (with_reducible refine Kd.C_drew ?_))); (case side2 => exact (Kd.R_reads' HO436.out).2.1); (case side3 => repeat (first | exact (Kd.R_reads' HO441.out).2.2 | (with_reducible refine Kd.C_alloc ?_ _) | (with_reducible refine Kd.C_drewN ?_ _) | (with_reducible refine Kd.C_drew ?_))); (case side4 => exact (Kd.R_reads' HO441.out).2.1); rintro e w' ⟨rfl, ⟨nd, rfl⟩⟩))
       go_ret
       exact ⟨by first | rfl | (simp [errW_none, errW_some] <;> rfl) | (simp [*, errW_none, errW_some] <;> rfl), by repeat (first | (with_reducible first | exact HB.out | apply below_alloc | apply pw_below_drewN | apply below_drew1) | exact HB.out)⟩
      ·rw [if_neg c14] at H
       exact absurd H (by simp)
     ·rw [if_neg c13] at H
      exact absurd H (by simp)
    ·rw [if_neg c11] at H
     exact absurd H (by simp)
   ·rw [if_neg c10] at H
    exact absurd H (by simp)
  ·rw [if_neg c7] at H
   have c7b0 : ((t425.length : Int) == 10) = false := beq_eq_false_iff_ne.mpr c7
   have c7b1 : ((t425.length : Int) != 10) = true := bne_iff_ne.mpr c7
   by_cases c28 : (t430.length : Int) = 0
   ·rw [if_pos c28] at H
    have c28b0 : ((t430.length : Int) == 0) = true := beq_iff_eq.mpr c28
    have c28b1 : ((t430.length : Int) != 0) = false := bne_eq_false_iff_eq.mpr c28
    clear c28
    obtain rfl := Option.some.inj H
    go_enter Tryd.func5, Tryd.ntmps5
    go_wp2_with (first | ((with_reducible refine gate_callee (f := 20) rfl ?_); refine goesL_ (some 10) rfl rfl Tryd.func20 (by kernel_rfl) rfl #[.slice A0 l0.length c0] rfl (by (try simp only [List.map_toArray, List.map_cons, List.map_nil]); first | done | rfl | (simp only [List.length_drop, List.length_take]; rfl)) ?_; (with_reducible refine (laws_big.calls _ _ l0 false _ ?side1 ?side2 A2.out).mono ?_); (case side1 => repeat (first | exact HR0.out | (with_reducible refine Kd.C_alloc ?_ _) | (with_reducible refine Kd.C_drewN ?_ _) | (with_reducible refine Kd.C_drew ?_))); (case side2 => exact HC0.out); rintro e w' ⟨rfl, ⟨nd, rfl⟩⟩; refine ⟨_, rfl, ?_⟩) | ((with_reducible refine gate_callee (f := 21) rfl ?_); refine goesL_ (some 13) rfl rfl Tryd.func21 (by kernel_rfl) rfl #[.slice A0 l0.length c0] rfl (by (try simp only [List.map_toArray, List.map_cons, List.map_nil]); first | done | rfl | (simp only [List.length_drop, List.length_take]; rfl)) ?_; (with_reducible refine (spec_DrawOnceSign.calls k _ _ l0 t425 t426 t427 _ ?side1 ?side2 A4.out).mono ?_); (case side1 => repeat (first | exact HR0.out | (with_reducible refine Kd.C_alloc ?_ _) | (with_reducible refine Kd.C_drewN ?_ _) | (with_reducible refine Kd.C_drew ?_))); (case side2 => exact HC0.out); rintro e w29 ⟨v428, rfl, ho0, hb⟩; refine ⟨_, rfl, ?_⟩; have n0_ := Aside0.mk (Kd.Q_lower ho0 (below_size (by repeat (first | (with_reducible first | exact HB.out | apply below_alloc | apply pw_below_drewN | apply below_drew1) | exact HB.out)))); have n1_ := Aside0.mk (below_step (by repeat (first | (with_reducible first | exact HB.out | apply below_alloc | apply pw_below_drewN | apply below_drew1) | exact HB.out)) hb); clear HB; have HO429 := n0_; have HB := n1_; clear n0_ n1_; (try clear hb); (try clear hb2); (try clear hk); (try clear hi); (try clear ho0); obtain ⟨Ao30, co30, eo30, _⟩ := Kd.Q_slice HO429.out; subst eo30) | ((with_reducible refine gate_callee (f := 22) rfl ?_); refine goesL_ (some 20) rfl rfl Tryd.func22 (by kernel_rfl) rfl #[.slice Ao30 t425.length co30, .int .i64 t426, .string t427] rfl (by (try simp only [List.map_toArray, List.map_cons, List.map_nil]); first | done | rfl | (simp only [List.length_drop, List.length_take]; rfl)) ?_; (with_reducible refine (impl_OnceSign.calls k _ _ t425 t426 t427 t430 _ ?side1 ?side2 A5.out (HLD.out.below HLD.out.pos (by repeat (first | (with_reducible first | exact HB.out | apply below_alloc | apply pw_below_drewN | apply below_drew1) | exact HB.out)))).mono ?_); (case side1 => repeat (first | exact (Kd.Q_reads' HO429.out).2.2 | (with_reducible refine Kd.C_alloc ?_ _) | (with_reducible refine Kd.C_drewN ?_ _) | (with_reducible refine Kd.C_drew ?_))); (case side2 => exact (Kd.Q_reads' HO429.out).2.1); rintro e w31 ⟨v431, rfl, ho0, hb⟩; refine ⟨_, rfl, ?_⟩; have n0_ := Aside0.mk (Kd.Q_elder' (by (with_reducible repeat (first | apply Kd.Q_alloc | apply Kd.Q_drewN | apply Kd.Q_drew)); exact HO429.out) (Kd.R_base ho0) hb); have n1_ := Aside0.mk (Kd.R_lower (Kd.R_new' ho0 (Kd.Q_lt (by (with_reducible repeat (first | apply Kd.Q_alloc | apply Kd.Q_drewN | apply Kd.Q_drew)); exact HO429.out))) (below_size (by repeat (first | (with_reducible first | exact HB.out | apply below_alloc | apply pw_below_drewN | apply below_drew1) | exact HB.out)))); have n2_ := Aside0.mk (below_step (by repeat (first | (with_reducible first | exact HB.out | apply below_alloc | apply pw_below_drewN | apply below_drew1) | exact HB.out)) hb); clear HO429; clear HB; have HO429 := n0_; have HO432 := n1_; have HB := n2_; clear n0_ n1_ n2_; (try clear hb); (try clear hb2); (try clear hk); (try clear hi); (try clear ho0)) | ((with_reducible refine gate_callee (f := 23) rfl ?_); refine goesL_ (some 23) rfl rfl Tryd.func23 (by kernel_rfl) rfl #[.slice Ao30 t425.length co30, .int .i64 t426] rfl (by (try simp only [List.map_toArray, List.map_cons, List.map_nil]); first | done | rfl | (simp only [List.length_drop, List.length_take]; rfl)) ?_; (with_reducible refine (impl_OncePublic.calls k _ _ t425 t426 t433 _ ?side1 ?side2 A6.out (HLD.out.below HLD.out.pos (by repeat (first | (with_reducible first | exact HB.out | apply below_alloc | apply pw_below_drewN | apply below_drew1) | exact HB.out)))).mono ?_); (case side1 => repeat (first | exact (Kd.Q_reads' HO429.out).2.2 | (with_reducible refine Kd.C_alloc ?_ _) | (with_reducible refine Kd.C_drewN ?_ _) | (with_reducible refine Kd.C_drew ?_))); (case side2 => exact (Kd.Q_reads' HO429.out).2.1); rintro e w32 ⟨rfl, hb⟩; refine ⟨_, rfl, ?_⟩; have n0_ := Aside0.mk (Kd.Q_below (by (with_reducible repeat (first | apply Kd.Q_alloc | apply Kd.Q_drewN | apply Kd.Q_drew)); exact HO429.out) hb); have n1_ := Aside0.mk (Kd.R_below (by (with_reducible repeat (first | apply Kd.R_alloc | apply Kd.R_drewN | apply Kd.R_drew)); exact HO432.out) hb); have n2_ := Aside0.mk (below_step (by repeat (first | (with_reducible first | exact HB.out | apply below_alloc | apply pw_below_drewN | apply below_drew1) | exact HB.out)) hb); clear HO429; clear HO432; clear HB; have HO429 := n0_; have HO432 := n1_; have HB := n2_; clear n0_ n1_ n2_; (try clear hb); (try clear hb2); (try clear hk); (try clear hi); obtain ⟨Ao33, co33, eo33⟩ := Kd.R_slice HO432.out; subst eo33))
    go_ret
    exact ⟨by first | rfl | (simp [errW_none, errW_some] <;> rfl) | (simp [*, errW_none, errW_some] <;> rfl), by repeat (first | (with_reducible first | exact HB.out | apply below_alloc | apply pw_below_drewN | apply below_drew1) | exact HB.out)⟩
   ·rw [if_neg c28] at H
    exact absurd H (by simp)

/-- THE ONE PURE STATEMENT of laws_FnOnce: yours. -/
def laws_FnOnce.Pure : Prop := ∀ (l0 : List Int), l0.length ≤ maxLen → l0.length * 1 ≤ 140737488351232 → (∀ x ∈ l0, (Lit.int .u8 x).wf = true) → ∃ k, laws_FnOnce.f k l0 = some true
theorem laws_FnOnce.walk (P : laws_FnOnce.Pure) (a0 : Option Addr) (len0 cap0 : Nat) (z0 : List Int) (w : World) (w0 : (a0 = none ∧ len0 = 0 ∧ cap0 = 0 ∧ z0 = []) ∨ ∃ x, a0 = some x ∧ len0 ≤ cap0 ∧ cap0 ≤ maxLen ∧ z0.length = cap0 ∧ (∀ i, i < z0.length → w.cell? (x.add i) = some (.int .u8 (z0.getD i 0))) ∧ ∀ n ∈ z0, (Lit.int .u8 n).wf = true) (y0 : len0 * 1 ≤ 140737488351232) (hLD : Laid w) :
  Calls Tryd.prog 5 #[.slice a0 len0 cap0] w fun e w' => e = .returned (.bool true) ∧ Below w.heap.size w w' := by
 have HLD := Aside0.mk hLD
 clear hLD
 obtain ⟨l0, rfl, hr0, hm0, hw0, hc0⟩ := ReadsInt.ofRowC w0
 obtain ⟨k, h⟩ := P l0 hm0 y0 hw0
 refine (laws_FnOnce.calls k _ _ l0 true w (Kd.C_of_reads (d := (0 : Int)) (h1 := fun _ => rfl) hr0) hc0 h HLD.out).mono ?_
 rintro e w' ⟨rfl, hd⟩
 exact ⟨rfl, hd⟩

end Go.Proofs.YtjcmafoepabpkaaDoor.P
