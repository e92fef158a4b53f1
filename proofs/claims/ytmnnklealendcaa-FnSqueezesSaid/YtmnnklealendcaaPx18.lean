-- PRINTED by print.py (a twelfth state) out of the translation. Not trusted: Lean checks it.
import Derived.Test.YtmnnklealendcaaPx0
import Derived.Test.YtmnnklealendcaaPx1
import Derived.Test.YtmnnklealendcaaPx2
import Derived.Test.YtmnnklealendcaaPx16
import Derived.Test.YtmnnklealendcaaPx17
namespace Go.Proofs.Ytmnnklealendcaa.P
open Go.RowKit Go.Proofs.YtmnnklealendcaaW.PrintWords Go.Proofs.YtmnnklealendcaaW.PrintLast Go.Proofs.YtmnnklealendcaaW.PrintMore
attribute [local go_sem] max2_int min2_int max_two min_two max_three min_three max_four min_four   -- for this text's walks alone
set_option linter.unusedVariables false
set_option linter.unusedSimpArgs false

/-! ### laws_FnSqueezes: function 10 -/
def laws_FnSqueezes.l0 : Nat → List Int → Int → Int → Int → Int → Int → Int → Option (Bool)
  | 0, _, _, _, _, _, _, _ => none
  | k + 1, x3, x4, x5, x6, x7, x8, x9 => if x9 < x5 then (laws_FnSqueezes.l0 k x3 x4 x5 x6 x7 (wrap64 (2 * x8)) (wrap64 (x9 + 1))) else (if (wrap64 (3329 - (Int.tmod (wrap64 ((wrap64 (x4 - x7)) + 3329)) 3329))) < (Int.tmod (wrap64 ((wrap64 (x4 - x7)) + 3329)) 3329) then (if 2 < (x3.length : Int) then (if x8 = 0 then (none) else (if x6 ≥ 0 then (if x6 < x8 then ((spec_Squeeze.f k x4 x5).bind fun t346 => (if x6 = t346 then (if (wrap64 (2 * x8)) = 0 then (none) else (if (wrap64 (3329 - (Int.tmod (wrap64 ((wrap64 (x4 - x7)) + 3329)) 3329))) ≤ (wrap64 (Int.tdiv (wrap64 (3329 + x8)) (wrap64 (2 * x8)))) then ((impl_Stretch.f (Int.tmod (rd x3 2) x8) x5).bind fun t347 => ((impl_Squeeze.f t347 x5).bind fun t348 => (if t348 = (Int.tmod (rd x3 2) x8) then (some (decide (x7 < 3329))) else (some false)))) else (some false))) else (some false))) else (some false)) else (some false))) else (none)) else (if 2 < (x3.length : Int) then (if x8 = 0 then (none) else (if x6 ≥ 0 then (if x6 < x8 then ((spec_Squeeze.f k x4 x5).bind fun t350 => (if x6 = t350 then (if (wrap64 (2 * x8)) = 0 then (none) else (if (Int.tmod (wrap64 ((wrap64 (x4 - x7)) + 3329)) 3329) ≤ (wrap64 (Int.tdiv (wrap64 (3329 + x8)) (wrap64 (2 * x8)))) then ((impl_Stretch.f (Int.tmod (rd x3 2) x8) x5).bind fun t351 => ((impl_Squeeze.f t351 x5).bind fun t352 => (if t352 = (Int.tmod (rd x3 2) x8) then (some (decide (x7 < 3329))) else (some false)))) else (some false))) else (some false))) else (some false)) else (some false))) else (none)))
def laws_FnSqueezes.f (k : Nat) (l0 : List Int) : Option (Bool) := (laws_big.f l0).bind fun t337 => (if t337 = true then (some true) else ((spec_DrawPlaces.f k l0).bind fun t338 => (if 0 < (t338.length : Int) then (if 1 < (t338.length : Int) then ((impl_Squeeze.f (Int.tmod (rd t338 0) 3329) (wrap64 (1 + (Int.tmod (rd t338 1) 11)))).bind fun t343 => ((impl_Stretch.f t343 (wrap64 (1 + (Int.tmod (rd t338 1) 11)))).bind fun t344 => (laws_FnSqueezes.l0 k t338 (Int.tmod (rd t338 0) 3329) (wrap64 (1 + (Int.tmod (rd t338 1) 11))) t343 t344 1 0))) else (none)) else (none))))
theorem laws_FnSqueezes.mono_l : ∀ k, (∀ y0 y1 y2 y3 y4 y5 y6, LeO (laws_FnSqueezes.l0 k y0 y1 y2 y3 y4 y5 y6) (laws_FnSqueezes.l0 (k + 1) y0 y1 y2 y3 y4 y5 y6))
  | 0 => fun _ _ _ _ _ _ _ r h => by simp [laws_FnSqueezes.l0] at h
  | k + 1 => by
    have ih0 := laws_FnSqueezes.mono_l k
    · intro y0 y1 y2 y3 y4 y5 y6
      unfold laws_FnSqueezes.l0
      repeat' first
      | (with_reducible exact ih0 _ _ _ _ _ _ _)
      | (with_reducible exact spec_DrawPlaces.mono _ _)
      | (with_reducible exact spec_Squeeze.mono _ _ _)
      | (with_reducible exact LeO.refl _)
      | (with_reducible exact LeO.none _)
      | (with_reducible refine LeO.ite ?_ ?_)
      | (with_reducible refine LeO.bind ?_ (fun _ => ?_))
      | exact ih0 _ _ _ _ _ _ _
      | exact spec_DrawPlaces.mono _ _
      | exact spec_Squeeze.mono _ _ _
      | exact LeO.none _
      | refine LeO.ite ?_ ?_
      | refine LeO.bind ?_ (fun _ => ?_)
theorem laws_FnSqueezes.mono : ∀ a0 k, LeO (laws_FnSqueezes.f k a0) (laws_FnSqueezes.f (k + 1) a0) := by
  intro a0 k
  have ih0 := laws_FnSqueezes.mono_l k
  unfold laws_FnSqueezes.f
  repeat' first
      | (with_reducible exact ih0 _ _ _ _ _ _ _)
      | (with_reducible exact spec_DrawPlaces.mono _ _)
      | (with_reducible exact spec_Squeeze.mono _ _ _)
      | (with_reducible exact LeO.refl _)
      | (with_reducible exact LeO.none _)
      | (with_reducible refine LeO.ite ?_ ?_)
      | (with_reducible refine LeO.bind ?_ (fun _ => ?_))
      | exact ih0 _ _ _ _ _ _ _
      | exact spec_DrawPlaces.mono _ _
      | exact spec_Squeeze.mono _ _ _
      | exact LeO.none _
      | refine LeO.ite ?_ ?_
      | refine LeO.bind ?_ (fun _ => ?_)
set_option maxHeartbeats 8000000 in
set_option maxRecDepth 100000 in
theorem laws_FnSqueezes.calls (k : Nat) (A0 : Option Addr) (c0 : Nat) (l0 : List Int) (r : Bool) (w : World) (hr0 : Kd.C (Kd.int .u8) w A0 l0.length l0) (hc0 : l0.length ≤ c0) (h : laws_FnSqueezes.f k l0 = some r) :
    Calls Try.prog 10 #[.slice A0 l0.length c0] w fun e w' => e = .returned (.bool r) ∧ Below w.heap.size w w' := by
  have HR0 := Aside0.mk hr0
  have HC0 := Aside0.mk hc0
  clear hr0 hc0
  have HB := Aside0.mk (Below.refl w.heap.size w)
  have H : ((laws_big.f l0).bind fun t337 => (if t337 = true then (some true) else ((spec_DrawPlaces.f k l0).bind fun t338 => (if 0 < (t338.length : Int) then (if 1 < (t338.length : Int) then ((impl_Squeeze.f (Int.tmod (rd t338 0) 3329) (wrap64 (1 + (Int.tmod (rd t338 1) 11)))).bind fun t343 => ((impl_Stretch.f t343 (wrap64 (1 + (Int.tmod (rd t338 1) 11)))).bind fun t344 => (laws_FnSqueezes.l0 k t338 (Int.tmod (rd t338 0) 3329) (wrap64 (1 + (Int.tmod (rd t338 1) 11))) t343 t344 1 0))) else (none)) else (none))))) = some r := h
  clear h
  replace H := Option.bind_eq_some_iff.mp H
  obtain ⟨t337, A20, H⟩ := H
  replace H : (if t337 = true then (some true) else ((spec_DrawPlaces.f k l0).bind fun t338 => (if 0 < (t338.length : Int) then (if 1 < (t338.length : Int) then ((impl_Squeeze.f (Int.tmod (rd t338 0) 3329) (wrap64 (1 + (Int.tmod (rd t338 1) 11)))).bind fun t343 => ((impl_Stretch.f t343 (wrap64 (1 + (Int.tmod (rd t338 1) 11)))).bind fun t344 => (laws_FnSqueezes.l0 k t338 (Int.tmod (rd t338 0) 3329) (wrap64 (1 + (Int.tmod (rd t338 1) 11))) t343 t344 1 0))) else (none)) else (none)))) = some r := H
  have A2 := Aside0.mk A20
  clear A20
  by_cases c3 : t337 = true
  · subst c3
    have H1 : (some true) = some r := by rw [if_pos rfl] at H; exact H
    clear H
    have H := H1
    clear H1
    obtain rfl := Option.some.inj H
    go_enter Try.func10, Try.ntmps10
    go_wp2_with (first | ((with_reducible refine gate_callee (f := 36) rfl ?_); refine goesL_ (some 13) rfl rfl Try.func36 (by kernel_rfl) rfl #[.slice A0 l0.length c0] rfl (by (try simp only [List.map_toArray, List.map_cons, List.map_nil]); first | done | rfl | (simp only [List.length_drop, List.length_take]; rfl)) ?_; (with_reducible refine (laws_big.calls _ _ l0 true _ ?side1 ?side2 A2.out).mono ?_); (case side1 => repeat (first | exact HR0.out | (with_reducible refine Kd.C_alloc ?_ _) | (with_reducible refine Kd.C_drewN ?_ _) | (with_reducible refine Kd.C_drew ?_))); (case side2 => exact HC0.out); rintro e w' ⟨rfl, ⟨nd, rfl⟩⟩; refine ⟨_, rfl, ?_⟩))
    go_ret
    exact ⟨by first | rfl | (simp [errW_none, errW_some] <;> rfl) | (simp [*, errW_none, errW_some] <;> rfl), by repeat (first | (with_reducible first | exact HB.out | apply below_alloc | apply pw_below_drewN | apply below_drew1) | exact HB.out)⟩
  · replace c3 := Bool.eq_false_iff.mpr c3
    subst c3
    have H1 : ((spec_DrawPlaces.f k l0).bind fun t338 => (if 0 < (t338.length : Int) then (if 1 < (t338.length : Int) then ((impl_Squeeze.f (Int.tmod (rd t338 0) 3329) (wrap64 (1 + (Int.tmod (rd t338 1) 11)))).bind fun t343 => ((impl_Stretch.f t343 (wrap64 (1 + (Int.tmod (rd t338 1) 11)))).bind fun t344 => (laws_FnSqueezes.l0 k t338 (Int.tmod (rd t338 0) 3329) (wrap64 (1 + (Int.tmod (rd t338 1) 11))) t343 t344 1 0))) else (none)) else (none))) = some r := by rw [if_neg (show ¬ (false = true) by decide)] at H; exact H
    clear H
    have H := H1
    clear H1
    replace H := Option.bind_eq_some_iff.mp H
    obtain ⟨t338, A40, H⟩ := H
    replace H : (if 0 < (t338.length : Int) then (if 1 < (t338.length : Int) then ((impl_Squeeze.f (Int.tmod (rd t338 0) 3329) (wrap64 (1 + (Int.tmod (rd t338 1) 11)))).bind fun t343 => ((impl_Stretch.f t343 (wrap64 (1 + (Int.tmod (rd t338 1) 11)))).bind fun t344 => (laws_FnSqueezes.l0 k t338 (Int.tmod (rd t338 0) 3329) (wrap64 (1 + (Int.tmod (rd t338 1) 11))) t343 t344 1 0))) else (none)) else (none)) = some r := H
    have A4 := Aside0.mk A40
    clear A40
    by_cases c5 : 0 < (t338.length : Int)
    · rw [if_pos c5] at H
      have c5b0 : decide (0 < (t338.length : Int)) = true := decide_eq_true c5
      have c5b1 : decide (0 < t338.length) = true := decide_eq_true (by omega)
      clear c5
      by_cases c6 : 1 < (t338.length : Int)
      · rw [if_pos c6] at H
        have c6b0 : decide (1 < (t338.length : Int)) = true := decide_eq_true c6
        have c6b1 : decide (1 < t338.length) = true := decide_eq_true (by omega)
        clear c6
        replace H := Option.bind_eq_some_iff.mp H
        obtain ⟨t343, A70, H⟩ := H
        replace H : ((impl_Stretch.f t343 (wrap64 (1 + (Int.tmod (rd t338 1) 11)))).bind fun t344 => (laws_FnSqueezes.l0 k t338 (Int.tmod (rd t338 0) 3329) (wrap64 (1 + (Int.tmod (rd t338 1) 11))) t343 t344 1 0)) = some r := H
        have A7 := Aside0.mk A70
        clear A70
        replace H := Option.bind_eq_some_iff.mp H
        obtain ⟨t344, A80, H⟩ := H
        replace H : (laws_FnSqueezes.l0 k t338 (Int.tmod (rd t338 0) 3329) (wrap64 (1 + (Int.tmod (rd t338 1) 11))) t343 t344 1 0) = some r := H
        have A8 := Aside0.mk A80
        clear A80
        have H' := Aside0.mk H
        clear H
        go_enter Try.func10, Try.ntmps10
        go_wp2_with (first | ((with_reducible refine gate_callee (f := 36) rfl ?_); refine goesL_ (some 13) rfl rfl Try.func36 (by kernel_rfl) rfl #[.slice A0 l0.length c0] rfl (by (try simp only [List.map_toArray, List.map_cons, List.map_nil]); first | done | rfl | (simp only [List.length_drop, List.length_take]; rfl)) ?_; (with_reducible refine (laws_big.calls _ _ l0 false _ ?side1 ?side2 A2.out).mono ?_); (case side1 => repeat (first | exact HR0.out | (with_reducible refine Kd.C_alloc ?_ _) | (with_reducible refine Kd.C_drewN ?_ _) | (with_reducible refine Kd.C_drew ?_))); (case side2 => exact HC0.out); rintro e w' ⟨rfl, ⟨nd, rfl⟩⟩; refine ⟨_, rfl, ?_⟩) | ((with_reducible refine gate_callee (f := 37) rfl ?_); refine goesL_ (some 15) rfl rfl Try.func37 (by kernel_rfl) rfl #[.slice A0 l0.length c0] rfl (by (try simp only [List.map_toArray, List.map_cons, List.map_nil]); first | done | rfl | (simp only [List.length_drop, List.length_take]; rfl)) ?_; (with_reducible refine (spec_DrawPlaces.calls k _ _ l0 t338 _ ?side1 ?side2 A4.out).mono ?_); (case side1 => repeat (first | exact HR0.out | (with_reducible refine Kd.C_alloc ?_ _) | (with_reducible refine Kd.C_drewN ?_ _) | (with_reducible refine Kd.C_drew ?_))); (case side2 => exact HC0.out); rintro e w9 ⟨v339, rfl, ho0, hb⟩; refine ⟨_, rfl, ?_⟩; have n0_ := Aside0.mk (Kd.R_lower ho0 (below_size (by repeat (first | (with_reducible first | exact HB.out | apply below_alloc | apply pw_below_drewN | apply below_drew1) | exact HB.out)))); have n1_ := Aside0.mk (below_step (by repeat (first | (with_reducible first | exact HB.out | apply below_alloc | apply pw_below_drewN | apply below_drew1) | exact HB.out)) hb); clear HB; have HO340 := n0_; have HB := n1_; clear n0_ n1_; (try clear hb); (try clear hb2); (try clear hk); (try clear hi); (try clear ho0); obtain ⟨Ao10, co10, eo10⟩ := Kd.R_slice HO340.out; subst eo10; have p341 : 0 ≤ (0 : Int) := (by omega); have q341 : 0 < (t338.length : Int) := of_decide_eq_true (by first | (with_reducible assumption) | assumption); obtain ⟨ad341, e341, hx341_0⟩ := Kd.at_int (Kd.R_reads' HO340.out).2.2 0 p341 q341; cases e341; have qi341 : (0 < t338.length) = True := eq_true (by omega); (try rw [show ((0 : Int)).toNat = 0 from rfl] at hx341_0); (try rw [Addr.add_zero'] at hx341_0); replace p341 := eq_true p341; replace q341 := eq_true q341; have p342 : 0 ≤ (1 : Int) := (by omega); have q342 : 1 < (t338.length : Int) := of_decide_eq_true (by first | (with_reducible assumption) | assumption); obtain ⟨ad342, e342, hx342_0⟩ := Kd.at_int (Kd.R_reads' HO340.out).2.2 1 p342 q342; obtain rfl : ad341 = ad342 := (by injection e342); (try simp only [show (1 : Int).toNat = 1 from rfl, Nat.reduceMul, Nat.reduceEqDiff, Go.Addr.add, ↓reduceIte] at hx342_0); have qi342 : (1 < t338.length) = True := eq_true (by omega); (try rw [show ((1 : Int)).toNat = 1 from rfl] at hx342_0); replace p342 := eq_true p342; replace q342 := eq_true q342) | ((with_reducible refine gate_callee (f := 16) rfl ?_); refine goesL_ (some 27) rfl rfl Try.func16 (by kernel_rfl) rfl #[.int .i64 (Int.tmod (rd t338 0) 3329), .int .i64 (wrap64 (1 + (Int.tmod (rd t338 1) 11)))] rfl (by (try simp only [List.map_toArray, List.map_cons, List.map_nil]); first | done | rfl | (simp only [List.length_drop, List.length_take]; rfl)) ?_; (with_reducible refine (impl_Squeeze.calls (Int.tmod (rd t338 0) 3329) (wrap64 (1 + (Int.tmod (rd t338 1) 11))) t343 _ A7.out).mono ?_); rintro e w' ⟨rfl, ⟨nd, rfl⟩⟩; refine ⟨_, rfl, ?_⟩) | ((with_reducible refine gate_callee (f := 18) rfl ?_); refine goesL_ (some 30) rfl rfl Try.func18 (by kernel_rfl) rfl #[.int .i64 t343, .int .i64 (wrap64 (1 + (Int.tmod (rd t338 1) 11)))] rfl (by (try simp only [List.map_toArray, List.map_cons, List.map_nil]); first | done | rfl | (simp only [List.length_drop, List.length_take]; rfl)) ?_; (with_reducible refine (impl_Stretch.calls t343 (wrap64 (1 + (Int.tmod (rd t338 1) 11))) t344 _ A8.out).mono ?_); rintro e w' ⟨rfl, ⟨nd, rfl⟩⟩; refine ⟨_, rfl, ?_⟩))
        go_loopg [8, 9] k (fun kq v8 v9 w' => ∃ (x8_1 : Int) (x9_1 : Int), v8 = .int .i64 x8_1 ∧ v9 = .int .i64 x9_1 ∧ Aside0 (laws_FnSqueezes.l0 kq t338 (Int.tmod (rd t338 0) 3329) (wrap64 (1 + (Int.tmod (rd t338 1) 11))) t343 t344 x8_1 x9_1 = some r) ∧ Aside0 (kq ≤ k) ∧ Aside0 (Kd.R (Kd.int .i64) 3 w' w.heap.size (fun _ => True) (.slice (some ad341) t338.length co10) t338) ∧ Aside0 (Below w.heap.size w w'))
        case atStart => exact ⟨(1), (0), (by first | rfl | (simp; done) | (simp [*]; done)), (by first | rfl | (simp; done) | (simp [*]; done)), H', ⟨Nat.le_refl _⟩, ⟨by (with_reducible repeat (first | apply Kd.R_alloc | apply Kd.R_drewN | apply Kd.R_drew)); exact HO340.out⟩, ⟨by repeat (first | (with_reducible first | exact HB.out | apply below_alloc | apply pw_below_drewN | apply below_drew1) | exact HB.out)⟩⟩
        case round =>
          clear H'
          try clear c1
          try clear p2
          try clear c3
          try clear p3
          try clear q3
          try clear hx3
          try clear qi3
          try clear c5
          try clear c5b0
          try clear c5b1
          try clear c6
          try clear c6b0
          try clear c6b1
          try clear p6
          try clear c10
          try clear hx341_0
          try clear hx342_0
          try clear p341
          try clear p342
          try clear q341
          try clear q342
          obtain ⟨x8_1, x9_1, rfl, rfl, HA, HK1, HO_3, HB⟩ := hrel
          cases gk with
          | zero => exact absurd HA.out (by simp [laws_FnSqueezes.l0])
          | succ k1 =>
            have H := HA.out
            clear HA
            simp only [laws_FnSqueezes.l0] at H
            by_cases c11 : x9_1 < (wrap64 (1 + (Int.tmod (rd t338 1) 11)))
            · rw [if_pos c11] at H
              have c11b0 : decide (x9_1 < (wrap64 (1 + (Int.tmod (rd t338 1) 11)))) = true := decide_eq_true c11
              clear c11
              have H' := Aside0.mk H
              clear H
              go_wp2
              go_roundg k1
              case measure => have := HK1.out; omega
              case rel => exact ⟨(wrap64 (2 * x8_1)), (wrap64 (x9_1 + 1)), (by first | rfl | (simp; done) | (simp [*]; done)), (by first | rfl | (simp; done) | (simp [*]; done)), H', ⟨by have := HK1.out; omega⟩, ⟨by (with_reducible repeat (first | apply Kd.R_alloc | apply Kd.R_drewN | apply Kd.R_drew)); exact HO_3.out⟩, ⟨by repeat (first | (with_reducible first | exact HB.out | apply below_alloc | apply pw_below_drewN | apply below_drew1) | exact HB.out)⟩⟩
            · rw [if_neg c11] at H
              have c11b0 : decide (x9_1 < (wrap64 (1 + (Int.tmod (rd t338 1) 11)))) = false := decide_eq_false c11
              clear c11
              by_cases c12 : (wrap64 (3329 - (Int.tmod (wrap64 ((wrap64 ((Int.tmod (rd t338 0) 3329) - t344)) + 3329)) 3329))) < (Int.tmod (wrap64 ((wrap64 ((Int.tmod (rd t338 0) 3329) - t344)) + 3329)) 3329)
              · rw [if_pos c12] at H
                have c12b0 : decide ((wrap64 (3329 - (Int.tmod (wrap64 ((wrap64 ((Int.tmod (rd t338 0) 3329) - t344)) + 3329)) 3329))) < (Int.tmod (wrap64 ((wrap64 ((Int.tmod (rd t338 0) 3329) - t344)) + 3329)) 3329)) = true := decide_eq_true c12
                clear c12
                by_cases c13 : 2 < (t338.length : Int)
                · rw [if_pos c13] at H
                  have c13b0 : decide (2 < (t338.length : Int)) = true := decide_eq_true c13
                  have c13b1 : decide (2 < t338.length) = true := decide_eq_true (by omega)
                  clear c13
                  by_cases c14 : x8_1 = 0
                  · rw [if_pos c14] at H
                    exact absurd H (by simp)
                  · rw [if_neg c14] at H
                    have c14b0 : (x8_1 == 0) = false := beq_eq_false_iff_ne.mpr c14
                    have c14b1 : (x8_1 != 0) = true := bne_iff_ne.mpr c14
                    by_cases c15 : t343 ≥ 0
                    · rw [if_pos c15] at H
                      have c15b0 : decide (0 ≤ t343) = true := decide_eq_true c15
                      clear c15
                      by_cases c16 : t343 < x8_1
                      · rw [if_pos c16] at H
                        have c16b0 : decide (t343 < x8_1) = true := decide_eq_true c16
                        clear c16
                        replace H := Option.bind_eq_some_iff.mp H
                        obtain ⟨t346, A170, H⟩ := H
                        replace H : (if t343 = t346 then (if (wrap64 (2 * x8_1)) = 0 then (none) else (if (wrap64 (3329 - (Int.tmod (wrap64 ((wrap64 ((Int.tmod (rd t338 0) 3329) - t344)) + 3329)) 3329))) ≤ (wrap64 (Int.tdiv (wrap64 (3329 + x8_1)) (wrap64 (2 * x8_1)))) then ((impl_Stretch.f (Int.tmod (rd t338 2) x8_1) (wrap64 (1 + (Int.tmod (rd t338 1) 11)))).bind fun t347 => ((impl_Squeeze.f t347 (wrap64 (1 + (Int.tmod (rd t338 1) 11)))).bind fun t348 => (if t348 = (Int.tmod (rd t338 2) x8_1) then (some (decide (t344 < 3329))) else (some false)))) else (some false))) else (some false)) = some r := H
                        have A17 := Aside0.mk A170
                        clear A170
                        by_cases c18 : t343 = t346
                        · rw [if_pos c18] at H
                          have c18b0 : (t343 == t346) = true := beq_iff_eq.mpr c18
                          have c18b1 : (t343 != t346) = false := bne_eq_false_iff_eq.mpr c18
                          clear c18
                          by_cases c19 : (wrap64 (2 * x8_1)) = 0
                          · rw [if_pos c19] at H
                            exact absurd H (by simp)
                          · rw [if_neg c19] at H
                            have c19b0 : ((wrap64 (2 * x8_1)) == 0) = false := beq_eq_false_iff_ne.mpr c19
                            have c19b1 : ((wrap64 (2 * x8_1)) != 0) = true := bne_iff_ne.mpr c19
                            by_cases c20 : (wrap64 (3329 - (Int.tmod (wrap64 ((wrap64 ((Int.tmod (rd t338 0) 3329) - t344)) + 3329)) 3329))) ≤ (wrap64 (Int.tdiv (wrap64 (3329 + x8_1)) (wrap64 (2 * x8_1))))
                            · rw [if_pos c20] at H
                              have c20b0 : decide ((wrap64 (3329 - (Int.tmod (wrap64 ((wrap64 ((Int.tmod (rd t338 0) 3329) - t344)) + 3329)) 3329))) ≤ (wrap64 (Int.tdiv (wrap64 (3329 + x8_1)) (wrap64 (2 * x8_1))))) = true := decide_eq_true c20
                              clear c20
                              replace H := Option.bind_eq_some_iff.mp H
                              obtain ⟨t347, A210, H⟩ := H
                              replace H : ((impl_Squeeze.f t347 (wrap64 (1 + (Int.tmod (rd t338 1) 11)))).bind fun t348 => (if t348 = (Int.tmod (rd t338 2) x8_1) then (some (decide (t344 < 3329))) else (some false))) = some r := H
                              have A21 := Aside0.mk A210
                              clear A210
                              replace H := Option.bind_eq_some_iff.mp H
                              obtain ⟨t348, A220, H⟩ := H
                              replace H : (if t348 = (Int.tmod (rd t338 2) x8_1) then (some (decide (t344 < 3329))) else (some false)) = some r := H
                              have A22 := Aside0.mk A220
                              clear A220
                              by_cases c23 : t348 = (Int.tmod (rd t338 2) x8_1)
                              · rw [if_pos c23] at H
                                have c23b0 : (t348 == (Int.tmod (rd t338 2) x8_1)) = true := beq_iff_eq.mpr c23
                                have c23b1 : (t348 != (Int.tmod (rd t338 2) x8_1)) = false := bne_eq_false_iff_eq.mpr c23
                                clear c23
                                obtain rfl := Option.some.inj H
                                have p345 : 0 ≤ (2 : Int) := (by omega)
                                have q345 : 2 < (t338.length : Int) := of_decide_eq_true (by first | (with_reducible assumption) | assumption)
                                obtain ⟨ad345, e345, hx345_0⟩ := Kd.at_int (Kd.R_reads' HO_3.out).2.2 2 p345 q345
                                obtain rfl : ad341 = ad345 := (by injection e345)
                                (try simp only [show (2 : Int).toNat = 2 from rfl, Nat.reduceMul, Nat.reduceEqDiff, Go.Addr.add, ↓reduceIte] at hx345_0)
                                have qi345 : (2 < t338.length) = True := eq_true (by omega)
                                (try rw [show ((2 : Int)).toNat = 2 from rfl] at hx345_0)
                                replace p345 := eq_true p345
                                replace q345 := eq_true q345
                                go_wp2_with (first | (go_at_call 15; (with_reducible refine (spec_Squeeze.calls k1 (Int.tmod (rd t338 0) 3329) (wrap64 (1 + (Int.tmod (rd t338 1) 11))) t346 _ A17.out).mono ?_); rintro e w' ⟨rfl, ⟨nd, rfl⟩⟩) | (go_at_call 18; (with_reducible refine (impl_Stretch.calls (Int.tmod (rd t338 2) x8_1) (wrap64 (1 + (Int.tmod (rd t338 1) 11))) t347 _ A21.out).mono ?_); rintro e w' ⟨rfl, ⟨nd, rfl⟩⟩) | (go_at_call 16; (with_reducible refine (impl_Squeeze.calls t347 (wrap64 (1 + (Int.tmod (rd t338 1) 11))) t348 _ A22.out).mono ?_); rintro e w' ⟨rfl, ⟨nd, rfl⟩⟩))
                                go_ret
                                exact ⟨by first | rfl | (simp [errW_none, errW_some] <;> rfl) | (simp [*, errW_none, errW_some] <;> rfl), by repeat (first | (with_reducible first | exact HB.out | apply below_alloc | apply pw_below_drewN | apply below_drew1) | exact HB.out)⟩
                              · rw [if_neg c23] at H
                                have c23b0 : (t348 == (Int.tmod (rd t338 2) x8_1)) = false := beq_eq_false_iff_ne.mpr c23
                                have c23b1 : (t348 != (Int.tmod (rd t338 2) x8_1)) = true := bne_iff_ne.mpr c23
                                obtain rfl := Option.some.inj H
                                have p345 : 0 ≤ (2 : Int) := (by omega)
                                have q345 : 2 < (t338.length : Int) := of_decide_eq_true (by first | (with_reducible assumption) | assumption)
                                obtain ⟨ad345, e345, hx345_0⟩ := Kd.at_int (Kd.R_reads' HO_3.out).2.2 2 p345 q345
                                obtain rfl : ad341 = ad345 := (by injection e345)
                                (try simp only [show (2 : Int).toNat = 2 from rfl, Nat.reduceMul, Nat.reduceEqDiff, Go.Addr.add, ↓reduceIte] at hx345_0)
                                have qi345 : (2 < t338.length) = True := eq_true (by omega)
                                (try rw [show ((2 : Int)).toNat = 2 from rfl] at hx345_0)
                                replace p345 := eq_true p345
                                replace q345 := eq_true q345
                                go_wp2_with (first | (go_at_call 15; (with_reducible refine (spec_Squeeze.calls k1 (Int.tmod (rd t338 0) 3329) (wrap64 (1 + (Int.tmod (rd t338 1) 11))) t346 _ A17.out).mono ?_); rintro e w' ⟨rfl, ⟨nd, rfl⟩⟩) | (go_at_call 18; (with_reducible refine (impl_Stretch.calls (Int.tmod (rd t338 2) x8_1) (wrap64 (1 + (Int.tmod (rd t338 1) 11))) t347 _ A21.out).mono ?_); rintro e w' ⟨rfl, ⟨nd, rfl⟩⟩) | (go_at_call 16; (with_reducible refine (impl_Squeeze.calls t347 (wrap64 (1 + (Int.tmod (rd t338 1) 11))) t348 _ A22.out).mono ?_); rintro e w' ⟨rfl, ⟨nd, rfl⟩⟩))
                                go_ret
                                exact ⟨by first | rfl | (simp [errW_none, errW_some] <;> rfl) | (simp [*, errW_none, errW_some] <;> rfl), by repeat (first | (with_reducible first | exact HB.out | apply below_alloc | apply pw_below_drewN | apply below_drew1) | exact HB.out)⟩
                            · rw [if_neg c20] at H
                              have c20b0 : decide ((wrap64 (3329 - (Int.tmod (wrap64 ((wrap64 ((Int.tmod (rd t338 0) 3329) - t344)) + 3329)) 3329))) ≤ (wrap64 (Int.tdiv (wrap64 (3329 + x8_1)) (wrap64 (2 * x8_1))))) = false := decide_eq_false c20
                              clear c20
                              obtain rfl := Option.some.inj H
                              have p345 : 0 ≤ (2 : Int) := (by omega)
                              have q345 : 2 < (t338.length : Int) := of_decide_eq_true (by first | (with_reducible assumption) | assumption)
                              obtain ⟨ad345, e345, hx345_0⟩ := Kd.at_int (Kd.R_reads' HO_3.out).2.2 2 p345 q345
                              obtain rfl : ad341 = ad345 := (by injection e345)
                              (try simp only [show (2 : Int).toNat = 2 from rfl, Nat.reduceMul, Nat.reduceEqDiff, Go.Addr.add, ↓reduceIte] at hx345_0)
                              have qi345 : (2 < t338.length) = True := eq_true (by omega)
                              (try rw [show ((2 : Int)).toNat = 2 from rfl] at hx345_0)
                              replace p345 := eq_true p345
                              replace q345 := eq_true q345
                              go_wp2_with (first | (go_at_call 15; (with_reducible refine (spec_Squeeze.calls k1 (Int.tmod (rd t338 0) 3329) (wrap64 (1 + (Int.tmod (rd t338 1) 11))) t346 _ A17.out).mono ?_); rintro e w' ⟨rfl, ⟨nd, rfl⟩⟩))
                              go_ret
                              exact ⟨by first | rfl | (simp [errW_none, errW_some] <;> rfl) | (simp [*, errW_none, errW_some] <;> rfl), by repeat (first | (with_reducible first | exact HB.out | apply below_alloc | apply pw_below_drewN | apply below_drew1) | exact HB.out)⟩
                        · rw [if_neg c18] at H
                          have c18b0 : (t343 == t346) = false := beq_eq_false_iff_ne.mpr c18
                          have c18b1 : (t343 != t346) = true := bne_iff_ne.mpr c18
                          obtain rfl := Option.some.inj H
                          have p345 : 0 ≤ (2 : Int) := (by omega)
                          have q345 : 2 < (t338.length : Int) := of_decide_eq_true (by first | (with_reducible assumption) | assumption)
                          obtain ⟨ad345, e345, hx345_0⟩ := Kd.at_int (Kd.R_reads' HO_3.out).2.2 2 p345 q345
                          obtain rfl : ad341 = ad345 := (by injection e345)
                          (try simp only [show (2 : Int).toNat = 2 from rfl, Nat.reduceMul, Nat.reduceEqDiff, Go.Addr.add, ↓reduceIte] at hx345_0)
                          have qi345 : (2 < t338.length) = True := eq_true (by omega)
                          (try rw [show ((2 : Int)).toNat = 2 from rfl] at hx345_0)
                          replace p345 := eq_true p345
                          replace q345 := eq_true q345
                          go_wp2_with (first | (go_at_call 15; (with_reducible refine (spec_Squeeze.calls k1 (Int.tmod (rd t338 0) 3329) (wrap64 (1 + (Int.tmod (rd t338 1) 11))) t346 _ A17.out).mono ?_); rintro e w' ⟨rfl, ⟨nd, rfl⟩⟩))
                          go_ret
                          exact ⟨by first | rfl | (simp [errW_none, errW_some] <;> rfl) | (simp [*, errW_none, errW_some] <;> rfl), by repeat (first | (with_reducible first | exact HB.out | apply below_alloc | apply pw_below_drewN | apply below_drew1) | exact HB.out)⟩
                      · rw [if_neg c16] at H
                        have c16b0 : decide (t343 < x8_1) = false := decide_eq_false c16
                        clear c16
                        obtain rfl := Option.some.inj H
                        have p345 : 0 ≤ (2 : Int) := (by omega)
                        have q345 : 2 < (t338.length : Int) := of_decide_eq_true (by first | (with_reducible assumption) | assumption)
                        obtain ⟨ad345, e345, hx345_0⟩ := Kd.at_int (Kd.R_reads' HO_3.out).2.2 2 p345 q345
                        obtain rfl : ad341 = ad345 := (by injection e345)
                        (try simp only [show (2 : Int).toNat = 2 from rfl, Nat.reduceMul, Nat.reduceEqDiff, Go.Addr.add, ↓reduceIte] at hx345_0)
                        have qi345 : (2 < t338.length) = True := eq_true (by omega)
                        (try rw [show ((2 : Int)).toNat = 2 from rfl] at hx345_0)
                        replace p345 := eq_true p345
                        replace q345 := eq_true q345
                        go_wp2
                        go_ret
                        exact ⟨by first | rfl | (simp [errW_none, errW_some] <;> rfl) | (simp [*, errW_none, errW_some] <;> rfl), by repeat (first | (with_reducible first | exact HB.out | apply below_alloc | apply pw_below_drewN | apply below_drew1) | exact HB.out)⟩
                    · rw [if_neg c15] at H
                      have c15b0 : decide (0 ≤ t343) = false := decide_eq_false c15
                      clear c15
                      obtain rfl := Option.some.inj H
                      have p345 : 0 ≤ (2 : Int) := (by omega)
                      have q345 : 2 < (t338.length : Int) := of_decide_eq_true (by first | (with_reducible assumption) | assumption)
                      obtain ⟨ad345, e345, hx345_0⟩ := Kd.at_int (Kd.R_reads' HO_3.out).2.2 2 p345 q345
                      obtain rfl : ad341 = ad345 := (by injection e345)
                      (try simp only [show (2 : Int).toNat = 2 from rfl, Nat.reduceMul, Nat.reduceEqDiff, Go.Addr.add, ↓reduceIte] at hx345_0)
                      have qi345 : (2 < t338.length) = True := eq_true (by omega)
                      (try rw [show ((2 : Int)).toNat = 2 from rfl] at hx345_0)
                      replace p345 := eq_true p345
                      replace q345 := eq_true q345
                      go_wp2
                      go_ret
                      exact ⟨by first | rfl | (simp [errW_none, errW_some] <;> rfl) | (simp [*, errW_none, errW_some] <;> rfl), by repeat (first | (with_reducible first | exact HB.out | apply below_alloc | apply pw_below_drewN | apply below_drew1) | exact HB.out)⟩
                · rw [if_neg c13] at H
                  exact absurd H (by simp)
              · rw [if_neg c12] at H
                have c12b0 : decide ((wrap64 (3329 - (Int.tmod (wrap64 ((wrap64 ((Int.tmod (rd t338 0) 3329) - t344)) + 3329)) 3329))) < (Int.tmod (wrap64 ((wrap64 ((Int.tmod (rd t338 0) 3329) - t344)) + 3329)) 3329)) = false := decide_eq_false c12
                clear c12
                by_cases c24 : 2 < (t338.length : Int)
                · rw [if_pos c24] at H
                  have c24b0 : decide (2 < (t338.length : Int)) = true := decide_eq_true c24
                  have c24b1 : decide (2 < t338.length) = true := decide_eq_true (by omega)
                  clear c24
                  by_cases c25 : x8_1 = 0
                  · rw [if_pos c25] at H
                    exact absurd H (by simp)
                  · rw [if_neg c25] at H
                    have c25b0 : (x8_1 == 0) = false := beq_eq_false_iff_ne.mpr c25
                    have c25b1 : (x8_1 != 0) = true := bne_iff_ne.mpr c25
                    by_cases c26 : t343 ≥ 0
                    · rw [if_pos c26] at H
                      have c26b0 : decide (0 ≤ t343) = true := decide_eq_true c26
                      clear c26
                      by_cases c27 : t343 < x8_1
                      · rw [if_pos c27] at H
                        have c27b0 : decide (t343 < x8_1) = true := decide_eq_true c27
                        clear c27
                        replace H := Option.bind_eq_some_iff.mp H
                        obtain ⟨t350, A280, H⟩ := H
                        replace H : (if t343 = t350 then (if (wrap64 (2 * x8_1)) = 0 then (none) else (if (Int.tmod (wrap64 ((wrap64 ((Int.tmod (rd t338 0) 3329) - t344)) + 3329)) 3329) ≤ (wrap64 (Int.tdiv (wrap64 (3329 + x8_1)) (wrap64 (2 * x8_1)))) then ((impl_Stretch.f (Int.tmod (rd t338 2) x8_1) (wrap64 (1 + (Int.tmod (rd t338 1) 11)))).bind fun t351 => ((impl_Squeeze.f t351 (wrap64 (1 + (Int.tmod (rd t338 1) 11)))).bind fun t352 => (if t352 = (Int.tmod (rd t338 2) x8_1) then (some (decide (t344 < 3329))) else (some false)))) else (some false))) else (some false)) = some r := H
                        have A28 := Aside0.mk A280
                        clear A280
                        by_cases c29 : t343 = t350
                        · rw [if_pos c29] at H
                          have c29b0 : (t343 == t350) = true := beq_iff_eq.mpr c29
                          have c29b1 : (t343 != t350) = false := bne_eq_false_iff_eq.mpr c29
                          clear c29
                          by_cases c30 : (wrap64 (2 * x8_1)) = 0
                          · rw [if_pos c30] at H
                            exact absurd H (by simp)
                          · rw [if_neg c30] at H
                            have c30b0 : ((wrap64 (2 * x8_1)) == 0) = false := beq_eq_false_iff_ne.mpr c30
                            have c30b1 : ((wrap64 (2 * x8_1)) != 0) = true := bne_iff_ne.mpr c30
                            by_cases c31 : (Int.tmod (wrap64 ((wrap64 ((Int.tmod (rd t338 0) 3329) - t344)) + 3329)) 3329) ≤ (wrap64 (Int.tdiv (wrap64 (3329 + x8_1)) (wrap64 (2 * x8_1))))
                            · rw [if_pos c31] at H
                              have c31b0 : decide ((Int.tmod (wrap64 ((wrap64 ((Int.tmod (rd t338 0) 3329) - t344)) + 3329)) 3329) ≤ (wrap64 (Int.tdiv (wrap64 (3329 + x8_1)) (wrap64 (2 * x8_1))))) = true := decide_eq_true c31
                              clear c31
                              replace H := Option.bind_eq_some_iff.mp H
                              obtain ⟨t351, A320, H⟩ := H
                              replace H : ((impl_Squeeze.f t351 (wrap64 (1 + (Int.tmod (rd t338 1) 11)))).bind fun t352 => (if t352 = (Int.tmod (rd t338 2) x8_1) then (some (decide (t344 < 3329))) else (some false))) = some r := H
                              have A32 := Aside0.mk A320
                              clear A320
                              replace H := Option.bind_eq_some_iff.mp H
                              obtain ⟨t352, A330, H⟩ := H
                              replace H : (if t352 = (Int.tmod (rd t338 2) x8_1) then (some (decide (t344 < 3329))) else (some false)) = some r := H
                              have A33 := Aside0.mk A330
                              clear A330
                              by_cases c34 : t352 = (Int.tmod (rd t338 2) x8_1)
                              · rw [if_pos c34] at H
                                have c34b0 : (t352 == (Int.tmod (rd t338 2) x8_1)) = true := beq_iff_eq.mpr c34
                                have c34b1 : (t352 != (Int.tmod (rd t338 2) x8_1)) = false := bne_eq_false_iff_eq.mpr c34
                                clear c34
                                obtain rfl := Option.some.inj H
                                have p349 : 0 ≤ (2 : Int) := (by omega)
                                have q349 : 2 < (t338.length : Int) := of_decide_eq_true (by first | (with_reducible assumption) | assumption)
                                obtain ⟨ad349, e349, hx349_0⟩ := Kd.at_int (Kd.R_reads' HO_3.out).2.2 2 p349 q349
                                obtain rfl : ad341 = ad349 := (by injection e349)
                                (try simp only [show (2 : Int).toNat = 2 from rfl, Nat.reduceMul, Nat.reduceEqDiff, Go.Addr.add, ↓reduceIte] at hx349_0)
                                have qi349 : (2 < t338.length) = True := eq_true (by omega)
                                (try rw [show ((2 : Int)).toNat = 2 from rfl] at hx349_0)
                                replace p349 := eq_true p349
                                replace q349 := eq_true q349
                                go_wp2_with (first | (go_at_call 15; (with_reducible refine (spec_Squeeze.calls k1 (Int.tmod (rd t338 0) 3329) (wrap64 (1 + (Int.tmod (rd t338 1) 11))) t350 _ A28.out).mono ?_); rintro e w' ⟨rfl, ⟨nd, rfl⟩⟩) | (go_at_call 18; (with_reducible refine (impl_Stretch.calls (Int.tmod (rd t338 2) x8_1) (wrap64 (1 + (Int.tmod (rd t338 1) 11))) t351 _ A32.out).mono ?_); rintro e w' ⟨rfl, ⟨nd, rfl⟩⟩) | (go_at_call 16; (with_reducible refine (impl_Squeeze.calls t351 (wrap64 (1 + (Int.tmod (rd t338 1) 11))) t352 _ A33.out).mono ?_); rintro e w' ⟨rfl, ⟨nd, rfl⟩⟩))
                                go_ret
                                exact ⟨by first | rfl | (simp [errW_none, errW_some] <;> rfl) | (simp [*, errW_none, errW_some] <;> rfl), by repeat (first | (with_reducible first | exact HB.out | apply below_alloc | apply pw_below_drewN | apply below_drew1) | exact HB.out)⟩
                              · rw [if_neg c34] at H
                                have c34b0 : (t352 == (Int.tmod (rd t338 2) x8_1)) = false := beq_eq_false_iff_ne.mpr c34
                                have c34b1 : (t352 != (Int.tmod (rd t338 2) x8_1)) = true := bne_iff_ne.mpr c34
                                obtain rfl := Option.some.inj H
                                have p349 : 0 ≤ (2 : Int) := (by omega)
                                have q349 : 2 < (t338.length : Int) := of_decide_eq_true (by first | (with_reducible assumption) | assumption)
                                obtain ⟨ad349, e349, hx349_0⟩ := Kd.at_int (Kd.R_reads' HO_3.out).2.2 2 p349 q349
                                obtain rfl : ad341 = ad349 := (by injection e349)
                                (try simp only [show (2 : Int).toNat = 2 from rfl, Nat.reduceMul, Nat.reduceEqDiff, Go.Addr.add, ↓reduceIte] at hx349_0)
                                have qi349 : (2 < t338.length) = True := eq_true (by omega)
                                (try rw [show ((2 : Int)).toNat = 2 from rfl] at hx349_0)
                                replace p349 := eq_true p349
                                replace q349 := eq_true q349
                                go_wp2_with (first | (go_at_call 15; (with_reducible refine (spec_Squeeze.calls k1 (Int.tmod (rd t338 0) 3329) (wrap64 (1 + (Int.tmod (rd t338 1) 11))) t350 _ A28.out).mono ?_); rintro e w' ⟨rfl, ⟨nd, rfl⟩⟩) | (go_at_call 18; (with_reducible refine (impl_Stretch.calls (Int.tmod (rd t338 2) x8_1) (wrap64 (1 + (Int.tmod (rd t338 1) 11))) t351 _ A32.out).mono ?_); rintro e w' ⟨rfl, ⟨nd, rfl⟩⟩) | (go_at_call 16; (with_reducible refine (impl_Squeeze.calls t351 (wrap64 (1 + (Int.tmod (rd t338 1) 11))) t352 _ A33.out).mono ?_); rintro e w' ⟨rfl, ⟨nd, rfl⟩⟩))
                                go_ret
                                exact ⟨by first | rfl | (simp [errW_none, errW_some] <;> rfl) | (simp [*, errW_none, errW_some] <;> rfl), by repeat (first | (with_reducible first | exact HB.out | apply below_alloc | apply pw_below_drewN | apply below_drew1) | exact HB.out)⟩
                            · rw [if_neg c31] at H
                              have c31b0 : decide ((Int.tmod (wrap64 ((wrap64 ((Int.tmod (rd t338 0) 3329) - t344)) + 3329)) 3329) ≤ (wrap64 (Int.tdiv (wrap64 (3329 + x8_1)) (wrap64 (2 * x8_1))))) = false := decide_eq_false c31
                              clear c31
                              obtain rfl := Option.some.inj H
                              have p349 : 0 ≤ (2 : Int) := (by omega)
                              have q349 : 2 < (t338.length : Int) := of_decide_eq_true (by first | (with_reducible assumption) | assumption)
                              obtain ⟨ad349, e349, hx349_0⟩ := Kd.at_int (Kd.R_reads' HO_3.out).2.2 2 p349 q349
                              obtain rfl : ad341 = ad349 := (by injection e349)
                              (try simp only [show (2 : Int).toNat = 2 from rfl, Nat.reduceMul, Nat.reduceEqDiff, Go.Addr.add, ↓reduceIte] at hx349_0)
                              have qi349 : (2 < t338.length) = True := eq_true (by omega)
                              (try rw [show ((2 : Int)).toNat = 2 from rfl] at hx349_0)
                              replace p349 := eq_true p349
                              replace q349 := eq_true q349
                              go_wp2_with (first | (go_at_call 15; (with_reducible refine (spec_Squeeze.calls k1 (Int.tmod (rd t338 0) 3329) (wrap64 (1 + (Int.tmod (rd t338 1) 11))) t350 _ A28.out).mono ?_); rintro e w' ⟨rfl, ⟨nd, rfl⟩⟩))
                              go_ret
                              exact ⟨by first | rfl | (simp [errW_none, errW_some] <;> rfl) | (simp [*, errW_none, errW_some] <;> rfl), by repeat (first | (with_reducible first | exact HB.out | apply below_alloc | apply pw_below_drewN | apply below_drew1) | exact HB.out)⟩
                        · rw [if_neg c29] at H
                          have c29b0 : (t343 == t350) = false := beq_eq_false_iff_ne.mpr c29
                          have c29b1 : (t343 != t350) = true := bne_iff_ne.mpr c29
                          obtain rfl := Option.some.inj H
                          have p349 : 0 ≤ (2 : Int) := (by omega)
                          have q349 : 2 < (t338.length : Int) := of_decide_eq_true (by first | (with_reducible assumption) | assumption)
                          obtain ⟨ad349, e349, hx349_0⟩ := Kd.at_int (Kd.R_reads' HO_3.out).2.2 2 p349 q349
                          obtain rfl : ad341 = ad349 := (by injection e349)
                          (try simp only [show (2 : Int).toNat = 2 from rfl, Nat.reduceMul, Nat.reduceEqDiff, Go.Addr.add, ↓reduceIte] at hx349_0)
                          have qi349 : (2 < t338.length) = True := eq_true (by omega)
                          (try rw [show ((2 : Int)).toNat = 2 from rfl] at hx349_0)
                          replace p349 := eq_true p349
                          replace q349 := eq_true q349
                          go_wp2_with (first | (go_at_call 15; (with_reducible refine (spec_Squeeze.calls k1 (Int.tmod (rd t338 0) 3329) (wrap64 (1 + (Int.tmod (rd t338 1) 11))) t350 _ A28.out).mono ?_); rintro e w' ⟨rfl, ⟨nd, rfl⟩⟩))
                          go_ret
                          exact ⟨by first | rfl | (simp [errW_none, errW_some] <;> rfl) | (simp [*, errW_none, errW_some] <;> rfl), by repeat (first | (with_reducible first | exact HB.out | apply below_alloc | apply pw_below_drewN | apply below_drew1) | exact HB.out)⟩
                      · rw [if_neg c27] at H
                        have c27b0 : decide (t343 < x8_1) = false := decide_eq_false c27
                        clear c27
                        obtain rfl := Option.some.inj H
                        have p349 : 0 ≤ (2 : Int) := (by omega)
                        have q349 : 2 < (t338.length : Int) := of_decide_eq_true (by first | (with_reducible assumption) | assumption)
                        obtain ⟨ad349, e349, hx349_0⟩ := Kd.at_int (Kd.R_reads' HO_3.out).2.2 2 p349 q349
                        obtain rfl : ad341 = ad349 := (by injection e349)
                        (try simp only [show (2 : Int).toNat = 2 from rfl, Nat.reduceMul, Nat.reduceEqDiff, Go.Addr.add, ↓reduceIte] at hx349_0)
                        have qi349 : (2 < t338.length) = True := eq_true (by omega)
                        (try rw [show ((2 : Int)).toNat = 2 from rfl] at hx349_0)
                        replace p349 := eq_true p349
                        replace q349 := eq_true q349
                        go_wp2
                        go_ret
                        exact ⟨by first | rfl | (simp [errW_none, errW_some] <;> rfl) | (simp [*, errW_none, errW_some] <;> rfl), by repeat (first | (with_reducible first | exact HB.out | apply below_alloc | apply pw_below_drewN | apply below_drew1) | exact HB.out)⟩
                    · rw [if_neg c26] at H
                      have c26b0 : decide (0 ≤ t343) = false := decide_eq_false c26
                      clear c26
                      obtain rfl := Option.some.inj H
                      have p349 : 0 ≤ (2 : Int) := (by omega)
                      have q349 : 2 < (t338.length : Int) := of_decide_eq_true (by first | (with_reducible assumption) | assumption)
                      obtain ⟨ad349, e349, hx349_0⟩ := Kd.at_int (Kd.R_reads' HO_3.out).2.2 2 p349 q349
                      obtain rfl : ad341 = ad349 := (by injection e349)
                      (try simp only [show (2 : Int).toNat = 2 from rfl, Nat.reduceMul, Nat.reduceEqDiff, Go.Addr.add, ↓reduceIte] at hx349_0)
                      have qi349 : (2 < t338.length) = True := eq_true (by omega)
                      (try rw [show ((2 : Int)).toNat = 2 from rfl] at hx349_0)
                      replace p349 := eq_true p349
                      replace q349 := eq_true q349
                      go_wp2
                      go_ret
                      exact ⟨by first | rfl | (simp [errW_none, errW_some] <;> rfl) | (simp [*, errW_none, errW_some] <;> rfl), by repeat (first | (with_reducible first | exact HB.out | apply below_alloc | apply pw_below_drewN | apply below_drew1) | exact HB.out)⟩
                · rw [if_neg c24] at H
                  exact absurd H (by simp)
      · rw [if_neg c6] at H
        exact absurd H (by simp)
    · rw [if_neg c5] at H
      exact absurd H (by simp)

/-- THE ONE PURE STATEMENT of laws_FnSqueezes: yours. -/
def laws_FnSqueezes.Pure : Prop := ∀ (l0 : List Int), l0.length ≤ maxLen → l0.length * 1 ≤ 140737488351232 → (∀ x ∈ l0, (Lit.int .u8 x).wf = true) → ∃ k, laws_FnSqueezes.f k l0 = some true
theorem laws_FnSqueezes.walk (P : laws_FnSqueezes.Pure) (a0 : Option Addr) (len0 cap0 : Nat) (z0 : List Int) (w : World) (w0 : (a0 = none ∧ len0 = 0 ∧ cap0 = 0 ∧ z0 = []) ∨ ∃ x, a0 = some x ∧ len0 ≤ cap0 ∧ cap0 ≤ maxLen ∧ z0.length = cap0 ∧ (∀ i, i < z0.length → w.cell? (x.add i) = some (.int .u8 (z0.getD i 0))) ∧ ∀ n ∈ z0, (Lit.int .u8 n).wf = true) (y0 : len0 * 1 ≤ 140737488351232) :
    Calls Try.prog 10 #[.slice a0 len0 cap0] w fun e w' => e = .returned (.bool true) ∧ Below w.heap.size w w' := by
  obtain ⟨l0, rfl, hr0, hm0, hw0, hc0⟩ := ReadsInt.ofRowC w0
  obtain ⟨k, h⟩ := P l0 hm0 y0 hw0
  refine (laws_FnSqueezes.calls k _ _ l0 true w (Kd.C_of_reads (d := (0 : Int)) (h1 := fun _ => rfl) hr0) hc0 h).mono ?_
  rintro e w' ⟨rfl, hd⟩
  exact ⟨rfl, hd⟩

end Go.Proofs.Ytmnnklealendcaa.P
