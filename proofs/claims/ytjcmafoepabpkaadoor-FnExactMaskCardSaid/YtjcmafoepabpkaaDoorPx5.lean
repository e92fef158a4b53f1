-- printed texts of this session, regrouped
import Derived.Test.YtjcmafoepabpkaaDoorMW6
import Derived.Test.YtjcmafoepabpkaaDoorHA4
import Derived.Test.YtjcmafoepabpkaaDoorHA7
import Derived.Test.YtjcmafoepabpkaaDoorPx0
import Derived.Test.YtjcmafoepabpkaaDoorPx2
namespace Go.Proofs.YtjcmafoepabpkaaDoor.P
open Go.RowKit Go.Proofs.YtjcmafoepabpkaaDoorW.PrintWords Go.Proofs.YtjcmafoepabpkaaDoorW.PrintLast Go.Proofs.YtjcmafoepabpkaaDoorW.PrintMore
attribute [local go_sem] max2_int min2_int max_two min_two max_three min_three max_four min_four   -- for this text's walks alone
set_option linter.unusedVariables false
set_option linter.unusedSimpArgs false

/-! ### impl_MacOf: function 68 -/
def impl_MacOf.j0 : Nat → ByteArray → ByteArray → Option (ByteArray)
 | 0, _, _ => none
 | k + 1, x0, x1 => (impl_zeros.f (wrap64 (64 - (x0.size : Int)))).bind fun t239 => (if x0.size + t239.size ≤ 9223372036854775807 then ((impl_xored.f (x0 ++ t239) 92).bind fun t240 => ((impl_xored.f (x0 ++ t239) 54).bind fun t241 => (if t241.size + x1.size ≤ 9223372036854775807 then ((impl_DigestOf.f (t241 ++ x1)).bind fun t242 => (if t240.size + t242.size ≤ 9223372036854775807 then ((impl_DigestOf.f (t240 ++ t242)).bind fun t243 => (some t243)) else (none))) else (none)))) else (none))
def impl_MacOf.f (k : Nat) (a0 : ByteArray) (a1 : ByteArray) : Option (ByteArray) := if (a0.size : Int) > 64 then ((impl_DigestOf.f a0).bind fun t238 => (impl_MacOf.j0 k t238 a1)) else (impl_MacOf.j0 k a0 a1)
theorem impl_MacOf.mono_l : ∀ k, (∀ y0 y1, LeO (impl_MacOf.j0 k y0 y1) (impl_MacOf.j0 (k + 1) y0 y1))
 | 0 => fun _ _ r h => by simp [impl_MacOf.j0] at h
 | k + 1 => by
  have ih0 := impl_MacOf.mono_l k
  ·intro y0 y1
   unfold impl_MacOf.j0
   repeat' first
   | (with_reducible exact ih0 _ _)
   | (with_reducible exact LeO.refl _)
   | (with_reducible exact LeO.none _)
   | (with_reducible refine LeO.ite ?_ ?_)
   | (with_reducible refine LeO.bind ?_ (fun _ => ?_))
   | exact ih0 _ _
   | exact LeO.none _
   | refine LeO.ite ?_ ?_
   | refine LeO.bind ?_ (fun _ => ?_)
theorem impl_MacOf.mono : ∀ a0 a1 k, LeO (impl_MacOf.f k a0 a1) (impl_MacOf.f (k + 1) a0 a1) := by
 intro a0 a1 k
 have ih0 := impl_MacOf.mono_l k
 unfold impl_MacOf.f
 repeat' first
   | (with_reducible exact ih0 _ _)
   | (with_reducible exact LeO.refl _)
   | (with_reducible exact LeO.none _)
   | (with_reducible refine LeO.ite ?_ ?_)
   | (with_reducible refine LeO.bind ?_ (fun _ => ?_))
   | exact ih0 _ _
   | exact LeO.none _
   | refine LeO.ite ?_ ?_
   | refine LeO.bind ?_ (fun _ => ?_)
set_option maxHeartbeats 8000000 in
set_option maxRecDepth 100000 in
theorem impl_MacOf.calls (k : Nat) (a0 : ByteArray) (a1 : ByteArray) (r : ByteArray) (w : World) (h : impl_MacOf.f k a0 a1 = some r) (hLD : Laid w) :
  Calls Tryd.prog 68 #[.string a0, .string a1] w fun e w' => e = .returned (.string r) ∧ Below w.heap.size w w' := by
 have HLD := Aside0.mk hLD
 clear hLD
 have HB := Aside0.mk (Below.refl w.heap.size w)
 have H : (if (a0.size : Int) > 64 then ((impl_DigestOf.f a0).bind fun t238 => (impl_MacOf.j0 k t238 a1)) else (impl_MacOf.j0 k a0 a1)) = some r := h
 clear h
 have HC3 := Aside0.mk H
 clear H
 go_enter Tryd.func68, Tryd.ntmps68
 go_upto_if 7 with (fail)
 go_cut [0] (fun v0 wc => ∃ (kq : Nat) (x0_2 : ByteArray), v0 = .string x0_2 ∧ Aside0 (impl_MacOf.j0 kq x0_2 a1 = some r) ∧ Aside0 (kq ≤ k) ∧ Aside0 (Below w.heap.size w wc))
 case first =>
  have H := HC3.out
  clear HC3
  by_cases c4 : (a0.size : Int) > 64
  ·rw [if_pos c4] at H
   have c4b0 : decide (64 < (a0.size : Int)) = true := decide_eq_true c4
   have c4b1 : decide (64 < a0.size) = true := decide_eq_true (by omega)
   clear c4
   (first | rw [c4b0] | (simp only [i64_w, i32_w]; rw [c4b0]) | skip)
   replace H := Option.bind_eq_some_iff.mp H
   obtain ⟨t238, A50, H⟩ := H
   replace H : (impl_MacOf.j0 k t238 a1) = some r := H
   have A5 := Aside0.mk A50
   clear A50
   have H' := Aside0.mk H
   clear H
   go_wp2_with (first | ((with_reducible refine gate_callee (f := 109) rfl ?_); refine goesL_ (some 9) rfl rfl Tryd.func109 (by kernel_rfl) rfl #[.string a0] rfl aM_ ?_; (with_reducible refine (impl_DigestOf.calls a0 t238 _ A5.out (HLD.out.below HLD.out.pos (hB_))).mono ?_); rintro e w6 ⟨rfl, hb⟩; refine ⟨_, rfl, ?_⟩; have n0_ := Aside0.mk (below_step (hB_) hb); clear HB; have HB := n0_; clear n0_; (try clear hb); (try clear hb2); (try clear hk); (try clear hi)))
   go_meet
   case rel => exact ⟨_, (t238), (by first | rfl | (simp; done) | (simp [*]; done)), H', ⟨by first | omega | exact Nat.le_refl _⟩, ⟨hB_⟩⟩
  ·rw [if_neg c4] at H
   have c4b0 : decide (64 < (a0.size : Int)) = false := decide_eq_false c4
   have c4b1 : decide (64 < a0.size) = false := decide_eq_false (by omega)
   clear c4
   (first | rw [c4b0] | (simp only [i64_w, i32_w]; rw [c4b0]) | skip)
   have H' := Aside0.mk H
   clear H
   go_wp2
   go_meet
   case rel => exact ⟨_, (a0), (by first | rfl | (simp; done) | (simp [*]; done)), H', ⟨by first | omega | exact Nat.le_refl _⟩, ⟨hB_⟩⟩
 case rest =>
  clear HC3
  try clear c1
  try clear p2
  try clear c4
  try clear c4b0
  try clear c4b1
  try clear c6
  obtain ⟨kq, x0_2, rfl, HA, HJ2, HB⟩ := hcut
  cases kq with
  | zero => exact absurd HA.out (by simp [impl_MacOf.j0])
  | succ kj2 =>
   have H := HA.out
   clear HA
   simp only [impl_MacOf.j0] at H
   replace H := Option.bind_eq_some_iff.mp H
   obtain ⟨t239, A70, H⟩ := H
   replace H : (if x0_2.size + t239.size ≤ 9223372036854775807 then ((impl_xored.f (x0_2 ++ t239) 92).bind fun t240 => ((impl_xored.f (x0_2 ++ t239) 54).bind fun t241 => (if t241.size + a1.size ≤ 9223372036854775807 then ((impl_DigestOf.f (t241 ++ a1)).bind fun t242 => (if t240.size + t242.size ≤ 9223372036854775807 then ((impl_DigestOf.f (t240 ++ t242)).bind fun t243 => (some t243)) else (none))) else (none)))) else (none)) = some r := H
   have A7 := Aside0.mk A70
   clear A70
   by_cases c8 : x0_2.size + t239.size ≤ 9223372036854775807
   ·rw [if_pos c8] at H
    have c8b0 := eq_true c8
    have c8b1 : decide (x0_2.size + t239.size ≤ 9223372036854775807) = true := decide_eq_true c8
    try have c8b2 : (9223372036854775807 < x0_2.size + t239.size) = False := eq_false (Nat.not_lt.2 c8)
    replace H := Option.bind_eq_some_iff.mp H
    obtain ⟨t240, A90, H⟩ := H
    replace H : ((impl_xored.f (x0_2 ++ t239) 54).bind fun t241 => (if t241.size + a1.size ≤ 9223372036854775807 then ((impl_DigestOf.f (t241 ++ a1)).bind fun t242 => (if t240.size + t242.size ≤ 9223372036854775807 then ((impl_DigestOf.f (t240 ++ t242)).bind fun t243 => (some t243)) else (none))) else (none))) = some r := H
    have A9 := Aside0.mk A90
    clear A90
    replace H := Option.bind_eq_some_iff.mp H
    obtain ⟨t241, A100, H⟩ := H
    replace H : (if t241.size + a1.size ≤ 9223372036854775807 then ((impl_DigestOf.f (t241 ++ a1)).bind fun t242 => (if t240.size + t242.size ≤ 9223372036854775807 then ((impl_DigestOf.f (t240 ++ t242)).bind fun t243 => (some t243)) else (none))) else (none)) = some r := H
    have A10 := Aside0.mk A100
    clear A100
    by_cases c11 : t241.size + a1.size ≤ 9223372036854775807
    ·rw [if_pos c11] at H
     have c11b0 := eq_true c11
     have c11b1 : decide (t241.size + a1.size ≤ 9223372036854775807) = true := decide_eq_true c11
     try have c11b2 : (9223372036854775807 < t241.size + a1.size) = False := eq_false (Nat.not_lt.2 c11)
     replace H := Option.bind_eq_some_iff.mp H
     obtain ⟨t242, A120, H⟩ := H
     replace H : (if t240.size + t242.size ≤ 9223372036854775807 then ((impl_DigestOf.f (t240 ++ t242)).bind fun t243 => (some t243)) else (none)) = some r := H
     have A12 := Aside0.mk A120
     clear A120
     by_cases c13 : t240.size + t242.size ≤ 9223372036854775807
     ·rw [if_pos c13] at H
      have c13b0 := eq_true c13
      have c13b1 : decide (t240.size + t242.size ≤ 9223372036854775807) = true := decide_eq_true c13
      try have c13b2 : (9223372036854775807 < t240.size + t242.size) = False := eq_false (Nat.not_lt.2 c13)
      replace H := Option.bind_eq_some_iff.mp H
      obtain ⟨t243, A140, H⟩ := H
      replace H : (some t243) = some r := H
      have A14 := Aside0.mk A140
      clear A140
      obtain rfl := Option.some.inj H
      go_wp2_with (first | ((with_reducible refine gate_callee (f := 110) rfl ?_); refine goesL_ (some 14) rfl rfl Tryd.func110 (by kernel_rfl) rfl #[.int .i64 (64 - (x0_2.size : Int))] rfl aM_ ?_; (with_reducible refine (impl_zeros.calls (64 - (x0_2.size : Int)) t239 _ (by have h_ := A7.out; rw [show wrap64 (64 - (x0_2.size : Int)) = 64 - (x0_2.size : Int) by unfold wrap64; omega] at h_; exact h_)).mono ?_); rintro e w15 ⟨rfl, hb⟩; refine ⟨_, rfl, ?_⟩; have n0_ := Aside0.mk (below_step (hB_) hb); clear HB; have HB := n0_; clear n0_; (try clear hb); (try clear hb2); (try clear hk); (try clear hi)) | ((with_reducible refine gate_callee (f := 111) rfl ?_); refine goesL_ (some 17) rfl rfl Tryd.func111 (by kernel_rfl) rfl #[.string (x0_2 ++ t239), .int .u8 92] rfl aM_ ?_; (with_reducible refine (impl_xored.calls (x0_2 ++ t239) 92 t240 _ A9.out).mono ?_); rintro e w16 ⟨rfl, hb⟩; refine ⟨_, rfl, ?_⟩; have n0_ := Aside0.mk (below_step (hB_) hb); clear HB; have HB := n0_; clear n0_; (try clear hb); (try clear hb2); (try clear hk); (try clear hi)) | ((with_reducible refine gate_callee (f := 111) rfl ?_); refine goesL_ (some 19) rfl rfl Tryd.func111 (by kernel_rfl) rfl #[.string (x0_2 ++ t239), .int .u8 54] rfl aM_ ?_; (with_reducible refine (impl_xored.calls (x0_2 ++ t239) 54 t241 _ A10.out).mono ?_); rintro e w17 ⟨rfl, hb⟩; refine ⟨_, rfl, ?_⟩; have n0_ := Aside0.mk (below_step (hB_) hb); clear HB; have HB := n0_; clear n0_; (try clear hb); (try clear hb2); (try clear hk); (try clear hi)) | ((with_reducible refine gate_callee (f := 109) rfl ?_); refine goesL_ (some 22) rfl rfl Tryd.func109 (by kernel_rfl) rfl #[.string (t241 ++ a1)] rfl aM_ ?_; (with_reducible refine (impl_DigestOf.calls (t241 ++ a1) t242 _ A12.out (HLD.out.below HLD.out.pos (hB_))).mono ?_); rintro e w18 ⟨rfl, hb⟩; refine ⟨_, rfl, ?_⟩; have n0_ := Aside0.mk (below_step (hB_) hb); clear HB; have HB := n0_; clear n0_; (try clear hb); (try clear hb2); (try clear hk); (try clear hi)) | ((with_reducible refine gate_callee (f := 109) rfl ?_); refine goesL_ (some 24) rfl rfl Tryd.func109 (by kernel_rfl) rfl #[.string (t240 ++ t242)] rfl aM_ ?_; (with_reducible refine (impl_DigestOf.calls (t240 ++ t242) t243 _ A14.out (HLD.out.below HLD.out.pos (hB_))).mono ?_); rintro e w19 ⟨rfl, hb⟩; refine ⟨_, rfl, ?_⟩; have n0_ := Aside0.mk (below_step (hB_) hb); clear HB; have HB := n0_; clear n0_; (try clear hb); (try clear hb2); (try clear hk); (try clear hi)))
      go_ret
      exact ⟨by first | rfl | (simp [errW_none, errW_some] <;> rfl) | (simp [*, errW_none, errW_some] <;> rfl), hB_⟩
     ·rw [if_neg c13] at H
      exact absurd H (by simp)
    ·rw [if_neg c11] at H
     exact absurd H (by simp)
   ·rw [if_neg c8] at H
    exact absurd H (by simp)

/-! ### impl_Mask: function 14 -/
mutual
def impl_Mask.j0 : Nat → ByteArray → Int → ByteArray → Bool → Option (ByteArray × Bool)
 | 0, _, _, _, _ => none
 | k + 1, x0, x2, x8, x23 => if x23 = true then (some ((⟨#[]⟩ : ByteArray), false)) else (impl_Mask.l0 k x0 x2 x8 (⟨#[]⟩ : ByteArray) 0)
def impl_Mask.l0 : Nat → ByteArray → Int → ByteArray → ByteArray → Int → Option (ByteArray × Bool)
 | 0, _, _, _, _, _ => none
 | k + 1, x0, x2, x8, x10, x11 => if (x10.size : Int) < x2 then (if 1 + x8.size ≤ 9223372036854775807 then ((impl_oneByte.f x11).bind fun t250 => (if ((⟨#[109]⟩ : ByteArray) ++ x8).size + t250.size ≤ 9223372036854775807 then ((impl_MacOf.f k x0 (((⟨#[109]⟩ : ByteArray) ++ x8) ++ t250)).bind fun t251 => (if x10.size + t251.size ≤ 9223372036854775807 then (impl_Mask.l0 k x0 x2 x8 (x10 ++ t251) (wrap64 (x11 + 1))) else (none))) else (none))) else (none)) else (if 0 ≤ x2 then (if x2 ≤ (x10.size : Int) then (some (x10.extract 0 (x2 : Int).toNat, true)) else (none)) else (none))
end
def impl_Mask.f (k : Nat) (a0 : ByteArray) (a1 : Int) (a2 : Int) : Option (ByteArray × Bool) := (impl_VarText.f k a1).bind fun bt247 => (if bt247.2 = true then ((impl_in.f a2 0 8000).bind fun t249 => (impl_Mask.j0 k a0 a2 bt247.1 (!t249))) else (impl_Mask.j0 k a0 a2 bt247.1 true))
theorem impl_Mask.mono_l : ∀ k, (∀ y0 y1 y2 y3, LeO (impl_Mask.j0 k y0 y1 y2 y3) (impl_Mask.j0 (k + 1) y0 y1 y2 y3)) ∧ (∀ y0 y1 y2 y3 y4, LeO (impl_Mask.l0 k y0 y1 y2 y3 y4) (impl_Mask.l0 (k + 1) y0 y1 y2 y3 y4))
 | 0 => ⟨fun _ _ _ _ r h => by simp [impl_Mask.j0] at h, fun _ _ _ _ _ r h => by simp [impl_Mask.l0] at h⟩
 | k + 1 => by
  obtain ⟨ih0, ih1⟩ := impl_Mask.mono_l k
  refine ⟨?_, ?_⟩
  ·intro y0 y1 y2 y3
   unfold impl_Mask.j0
   repeat' first
   | (with_reducible exact ih0 _ _ _ _)
   | (with_reducible exact ih1 _ _ _ _ _)
   | (with_reducible exact impl_MacOf.mono _ _ _)
   | (with_reducible exact impl_VarText.mono _ _)
   | (with_reducible exact LeO.refl _)
   | (with_reducible exact LeO.none _)
   | (with_reducible refine LeO.ite ?_ ?_)
   | (with_reducible refine LeO.bind ?_ (fun _ => ?_))
   | exact ih0 _ _ _ _
   | exact ih1 _ _ _ _ _
   | exact impl_MacOf.mono _ _ _
   | exact impl_VarText.mono _ _
   | exact LeO.none _
   | refine LeO.ite ?_ ?_
   | refine LeO.bind ?_ (fun _ => ?_)
  ·intro y0 y1 y2 y3 y4
   unfold impl_Mask.l0
   repeat' first
   | (with_reducible exact ih0 _ _ _ _)
   | (with_reducible exact ih1 _ _ _ _ _)
   | (with_reducible exact impl_MacOf.mono _ _ _)
   | (with_reducible exact impl_VarText.mono _ _)
   | (with_reducible exact LeO.refl _)
   | (with_reducible exact LeO.none _)
   | (with_reducible refine LeO.ite ?_ ?_)
   | (with_reducible refine LeO.bind ?_ (fun _ => ?_))
   | exact ih0 _ _ _ _
   | exact ih1 _ _ _ _ _
   | exact impl_MacOf.mono _ _ _
   | exact impl_VarText.mono _ _
   | exact LeO.none _
   | refine LeO.ite ?_ ?_
   | refine LeO.bind ?_ (fun _ => ?_)
theorem impl_Mask.mono : ∀ a0 a1 a2 k, LeO (impl_Mask.f k a0 a1 a2) (impl_Mask.f (k + 1) a0 a1 a2) := by
 intro a0 a1 a2 k
 obtain ⟨ih0, ih1⟩ := impl_Mask.mono_l k
 unfold impl_Mask.f
 repeat' first
   | (with_reducible exact ih0 _ _ _ _)
   | (with_reducible exact ih1 _ _ _ _ _)
   | (with_reducible exact impl_MacOf.mono _ _ _)
   | (with_reducible exact impl_VarText.mono _ _)
   | (with_reducible exact LeO.refl _)
   | (with_reducible exact LeO.none _)
   | (with_reducible refine LeO.ite ?_ ?_)
   | (with_reducible refine LeO.bind ?_ (fun _ => ?_))
   | exact ih0 _ _ _ _
   | exact ih1 _ _ _ _ _
   | exact impl_MacOf.mono _ _ _
   | exact impl_VarText.mono _ _
   | exact LeO.none _
   | refine LeO.ite ?_ ?_
   | refine LeO.bind ?_ (fun _ => ?_)
set_option maxHeartbeats 8000000 in
set_option maxRecDepth 100000 in
theorem impl_Mask.calls (k : Nat) (a0 : ByteArray) (a1 : Int) (a2 : Int) (r1 : ByteArray) (r2 : Bool) (w : World) (h : impl_Mask.f k a0 a1 a2 = some (r1, r2)) (hLD : Laid w) :
  Calls Tryd.prog 14 #[.string a0, .int .i64 a1, .int .i64 a2] w fun e w' => e = .returned (.tuple #[.string r1, .bool r2]) ∧ Below w.heap.size w w' := by
 have HLD := Aside0.mk hLD
 clear hLD
 have HB := Aside0.mk (Below.refl w.heap.size w)
 have H : ((impl_VarText.f k a1).bind fun bt247 => (if bt247.2 = true then ((impl_in.f a2 0 8000).bind fun t249 => (impl_Mask.j0 k a0 a2 bt247.1 (!t249))) else (impl_Mask.j0 k a0 a2 bt247.1 true))) = some (r1, r2) := h
 clear h
 replace H := Option.bind_eq_some_iff.mp H
 obtain ⟨⟨t247, t248⟩, A40, H⟩ := H
 replace H : (if t248 = true then ((impl_in.f a2 0 8000).bind fun t249 => (impl_Mask.j0 k a0 a2 t247 (!t249))) else (impl_Mask.j0 k a0 a2 t247 true)) = some (r1, r2) := H
 have A4 := Aside0.mk A40
 clear A40
 have HC5 := Aside0.mk H
 clear H
 go_enter Tryd.func14, Tryd.ntmps14
 go_upto_region 2 with (first | ((with_reducible refine gate_callee (f := 66) rfl ?_); refine goesL_ (some 14) rfl rfl Tryd.func66 (by kernel_rfl) rfl #[.int .i64 a1] rfl aM_ ?_; (with_reducible refine (impl_VarText.calls k a1 t247 t248 _ A4.out).mono ?_); rintro e w6 ⟨rfl, hb⟩; refine ⟨_, rfl, ?_⟩; have n0_ := Aside0.mk (below_step (hB_) hb); clear HB; have HB := n0_; clear n0_; (try clear hb); (try clear hb2); (try clear hk); (try clear hi)))
 (try simp only [Act.put, List.setIfInBounds_toArray, List.set_cons_zero, List.set_cons_succ])
 go_cut [23] (fun v23 wc => ∃ (kq : Nat) (x23_4 : Bool), v23 = .bool x23_4 ∧ Aside0 (impl_Mask.j0 kq a0 a2 t247 x23_4 = some (r1, r2)) ∧ Aside0 (kq ≤ k) ∧ Aside0 (Below w.heap.size w wc))
 case first =>
  have H := HC5.out
  clear HC5
  by_cases c7 : t248 = true
  ·subst c7
   have H1 : ((impl_in.f a2 0 8000).bind fun t249 => (impl_Mask.j0 k a0 a2 t247 (!t249))) = some (r1, r2) := by rw [if_pos rfl] at H; exact H
   clear H
   have H := H1
   clear H1
   replace H := Option.bind_eq_some_iff.mp H
   obtain ⟨t249, A80, H⟩ := H
   replace H : (impl_Mask.j0 k a0 a2 t247 (!t249)) = some (r1, r2) := H
   have A8 := Aside0.mk A80
   clear A80
   have H' := Aside0.mk H
   clear H
   go_wp2_with (first | (go_at_call 67; (with_reducible refine (impl_in.calls a2 0 8000 t249 _ A8.out).mono ?_); rintro e w' ⟨rfl, ⟨nd, rfl⟩⟩))
   go_meet
   case rel => exact ⟨_, (!t249), (by first | rfl | (simp; done) | (simp [*]; done)), H', ⟨by first | omega | exact Nat.le_refl _⟩, ⟨hB_⟩⟩
  ·replace c7 := Bool.eq_false_iff.mpr c7
   subst c7
   have H1 : (impl_Mask.j0 k a0 a2 t247 true) = some (r1, r2) := by rw [if_neg (show ¬ (false = true) by decide)] at H; exact H
   clear H
   have H := H1
   clear H1
   have H' := Aside0.mk H
   clear H
   go_wp2
   go_meet
   case rel => exact ⟨_, (true), (by first | rfl | (simp; done) | (simp [*]; done)), H', ⟨by first | omega | exact Nat.le_refl _⟩, ⟨hB_⟩⟩
 case rest =>
  clear HC5
  try clear c1
  try clear p2
  try clear c6
  try clear c7
  obtain ⟨kq, x23_4, rfl, HA, HJ4, HB⟩ := hcut
  cases kq with
  | zero => exact absurd HA.out (by simp [impl_Mask.j0])
  | succ kj4 =>
   have H := HA.out
   clear HA
   simp only [impl_Mask.j0] at H
   by_cases c9 : x23_4 = true
   ·subst c9
    have H1 : (some ((⟨#[]⟩ : ByteArray), false)) = some (r1, r2) := by rw [if_pos rfl] at H; exact H
    clear H
    have H := H1
    clear H1
    simp only [Option.some.injEq, Prod.mk.injEq] at H
    obtain ⟨rfl, rfl⟩ := H
    go_wp2
    go_ret2
    exact ⟨by first | rfl | (simp [errW_none, errW_some] <;> rfl) | (simp [*, errW_none, errW_some] <;> rfl), hB_⟩
   ·replace c9 := Bool.eq_false_iff.mpr c9
    subst c9
    have H1 : (impl_Mask.l0 kj4 a0 a2 t247 (⟨#[]⟩ : ByteArray) 0) = some (r1, r2) := by rw [if_neg (show ¬ (false = true) by decide)] at H; exact H
    clear H
    have H := H1
    clear H1
    have H' := Aside0.mk H
    clear H
    go_wp2
    go_loopg [10, 11] kj4 (fun kq v10 v11 w' => ∃ (x10_2 : ByteArray) (x11_2 : Int), v10 = .string x10_2 ∧ v11 = .int .i64 x11_2 ∧ Aside0 (impl_Mask.l0 kq a0 a2 t247 x10_2 x11_2 = some (r1, r2)) ∧ Aside0 (kq ≤ kj4) ∧ Aside0 (Below w.heap.size w w'))
    case atStart => exact ⟨((⟨#[]⟩ : ByteArray)), (0), (by first | rfl | (simp; done) | (simp [*]; done)), (by first | rfl | (simp; done) | (simp [*]; done)), H', ⟨Nat.le_refl _⟩, ⟨hB_⟩⟩
    case round =>
     clear H'
     try clear c1
     try clear p2
     try clear c6
     try clear c7
     try clear c9
     try clear p2
     obtain ⟨x10_2, x11_2, rfl, rfl, HA, HK2, HB⟩ := hrel
     cases gk with
     | zero => exact absurd HA.out (by simp [impl_Mask.l0])
     | succ k2 =>
      have H := HA.out
      clear HA
      simp only [impl_Mask.l0] at H
      by_cases c10 : (x10_2.size : Int) < a2
      ·rw [if_pos c10] at H
       have c10b0 : decide ((x10_2.size : Int) < a2) = true := decide_eq_true c10
       clear c10
       by_cases c11 : 1 + t247.size ≤ 9223372036854775807
       ·rw [if_pos c11] at H
        have c11b0 := eq_true c11
        have c11b1 : decide (1 + t247.size ≤ 9223372036854775807) = true := decide_eq_true c11
        try have c11b2 : (9223372036854775807 < 1 + t247.size) = False := eq_false (Nat.not_lt.2 c11)
        replace H := Option.bind_eq_some_iff.mp H
        obtain ⟨t250, A120, H⟩ := H
        replace H : (if ((⟨#[109]⟩ : ByteArray) ++ t247).size + t250.size ≤ 9223372036854775807 then ((impl_MacOf.f k2 a0 (((⟨#[109]⟩ : ByteArray) ++ t247) ++ t250)).bind fun t251 => (if x10_2.size + t251.size ≤ 9223372036854775807 then (impl_Mask.l0 k2 a0 a2 t247 (x10_2 ++ t251) (wrap64 (x11_2 + 1))) else (none))) else (none)) = some (r1, r2) := H
        have A12 := Aside0.mk A120
        clear A120
        by_cases c13 : ((⟨#[109]⟩ : ByteArray) ++ t247).size + t250.size ≤ 9223372036854775807
        ·rw [if_pos c13] at H
         have c13b0 := eq_true c13
         have c13b1 : decide (((⟨#[109]⟩ : ByteArray) ++ t247).size + t250.size ≤ 9223372036854775807) = true := decide_eq_true c13
         try have c13b2 : (9223372036854775807 < ((⟨#[109]⟩ : ByteArray) ++ t247).size + t250.size) = False := eq_false (Nat.not_lt.2 c13)
         try have c13b9 : (9223372036854775807 < 1 + t247.size + t250.size) = False := (show ((⟨#[109]⟩ : ByteArray) ++ t247).size = 1 + t247.size from (by rw [ByteArray.size_append]; rfl)) ▸ c13b2
         replace H := Option.bind_eq_some_iff.mp H
         obtain ⟨t251, A140, H⟩ := H
         replace H : (if x10_2.size + t251.size ≤ 9223372036854775807 then (impl_Mask.l0 k2 a0 a2 t247 (x10_2 ++ t251) (wrap64 (x11_2 + 1))) else (none)) = some (r1, r2) := H
         have A14 := Aside0.mk A140
         clear A140
         by_cases c15 : x10_2.size + t251.size ≤ 9223372036854775807
         ·rw [if_pos c15] at H
          have c15b0 := eq_true c15
          have c15b1 : decide (x10_2.size + t251.size ≤ 9223372036854775807) = true := decide_eq_true c15
          try have c15b2 : (9223372036854775807 < x10_2.size + t251.size) = False := eq_false (Nat.not_lt.2 c15)
          have H' := Aside0.mk H
          clear H
          go_wp2_with (first | ((with_reducible refine gate_callee (f := 69) rfl ?_); refine goesL_ (some 35) rfl rfl Tryd.func69 (by kernel_rfl) rfl #[.int .i64 x11_2] rfl aM_ ?_; (with_reducible refine (impl_oneByte.calls x11_2 t250 _ A12.out).mono ?_); rintro e w16 ⟨rfl, hb⟩; refine ⟨_, rfl, ?_⟩; have n0_ := Aside0.mk (below_step (hB_) hb); clear HB; have HB := n0_; clear n0_; (try clear hb); (try clear hb2); (try clear hk); (try clear hi)) | ((with_reducible refine gate_callee (f := 68) rfl ?_); refine goesL_ (some 37) rfl rfl Tryd.func68 (by kernel_rfl) rfl #[.string a0, .string (((⟨#[109]⟩ : ByteArray) ++ t247) ++ t250)] rfl aM_ ?_; (with_reducible refine (impl_MacOf.calls k2 a0 (((⟨#[109]⟩ : ByteArray) ++ t247) ++ t250) t251 _ A14.out (HLD.out.below HLD.out.pos (hB_))).mono ?_); rintro e w17 ⟨rfl, hb⟩; refine ⟨_, rfl, ?_⟩; have n0_ := Aside0.mk (below_step (hB_) hb); clear HB; have HB := n0_; clear n0_; (try clear hb); (try clear hb2); (try clear hk); (try clear hi)))
          go_roundg k2
          case measure => have := HJ4.out; have := HK2.out; omega
          case rel => exact ⟨(x10_2 ++ t251), (wrap64 (x11_2 + 1)), (by first | rfl | (simp; done) | (simp [*]; done)), (by first | rfl | (simp; done) | (simp [*]; done)), H', ⟨by have := HJ4.out; have := HK2.out; omega⟩, ⟨hB_⟩⟩
         ·rw [if_neg c15] at H
          exact absurd H (by simp)
        ·rw [if_neg c13] at H
         exact absurd H (by simp)
       ·rw [if_neg c11] at H
        exact absurd H (by simp)
      ·rw [if_neg c10] at H
       have c10b0 : decide ((x10_2.size : Int) < a2) = false := decide_eq_false c10
       clear c10
       by_cases c18 : 0 ≤ a2
       ·rw [if_pos c18] at H
        have c18b0 := eq_true c18
        have c18b1 : decide (0 ≤ a2) = true := decide_eq_true c18
        clear c18
        by_cases c19 : a2 ≤ (x10_2.size : Int)
        ·rw [if_pos c19] at H
         have c19b0 := eq_true c19
         have c19b1 : decide (a2 ≤ (x10_2.size : Int)) = true := decide_eq_true c19
         clear c19
         simp only [Option.some.injEq, Prod.mk.injEq] at H
         obtain ⟨rfl, rfl⟩ := H
         go_wp2
         go_ret2
         exact ⟨by first | rfl | (simp [errW_none, errW_some] <;> rfl) | (simp [*, errW_none, errW_some] <;> rfl), hB_⟩
        ·rw [if_neg c19] at H
         exact absurd H (by simp)
       ·rw [if_neg c18] at H
        exact absurd H (by simp)

end Go.Proofs.YtjcmafoepabpkaaDoor.P
