-- printed texts of this session, regrouped
import Derived.Test.YtjcmafoepabpkaaDoorMW6
import Derived.Test.YtjcmafoepabpkaaDoorHA7
import Derived.Test.YtjcmafoepabpkaaDoorPx0
import Derived.Test.YtjcmafoepabpkaaDoorPx3
namespace Go.Proofs.YtjcmafoepabpkaaDoor.P
open Go.RowKit Go.Proofs.YtjcmafoepabpkaaDoorW.PrintWords Go.Proofs.YtjcmafoepabpkaaDoorW.PrintLast Go.Proofs.YtjcmafoepabpkaaDoorW.PrintMore
attribute [local go_sem] max2_int min2_int max_two min_two max_three min_three max_four min_four   -- for this text's walks alone
set_option linter.unusedVariables false
set_option linter.unusedSimpArgs false

/-! ### spec_MacOf: function 63 -/
def spec_MacOf.f (k : Nat) (a0 : ByteArray) (a1 : ByteArray) : Option (ByteArray) := (spec_l06Mask.f k a0 92).bind fun t200 => ((spec_l06Mask.f k a0 54).bind fun t201 => (if t201.size + a1.size ≤ 9223372036854775807 then ((spec_DigestOf.f k (t201 ++ a1)).bind fun t202 => (if t200.size + t202.size ≤ 9223372036854775807 then ((spec_DigestOf.f k (t200 ++ t202)).bind fun t203 => (some t203)) else (none))) else (none)))
theorem spec_MacOf.mono : ∀ a0 a1 k, LeO (spec_MacOf.f k a0 a1) (spec_MacOf.f (k + 1) a0 a1) := by
 intro a0 a1 k
 unfold spec_MacOf.f
 repeat' first
   | (with_reducible exact spec_DigestOf.mono _ _)
   | (with_reducible exact spec_l06Mask.mono _ _ _)
   | (with_reducible exact LeO.refl _)
   | (with_reducible exact LeO.none _)
   | (with_reducible refine LeO.ite ?_ ?_)
   | (with_reducible refine LeO.bind ?_ (fun _ => ?_))
   | exact spec_DigestOf.mono _ _
   | exact spec_l06Mask.mono _ _ _
   | exact LeO.none _
   | refine LeO.ite ?_ ?_
   | refine LeO.bind ?_ (fun _ => ?_)
set_option maxHeartbeats 8000000 in
set_option maxRecDepth 100000 in
theorem spec_MacOf.calls (k : Nat) (a0 : ByteArray) (a1 : ByteArray) (r : ByteArray) (w : World) (h : spec_MacOf.f k a0 a1 = some r) :
  Calls Tryd.prog 63 #[.string a0, .string a1] w fun e w' => e = .returned (.string r) ∧ Below w.heap.size w w' := by
 have HB := Aside0.mk (Below.refl w.heap.size w)
 have H : ((spec_l06Mask.f k a0 92).bind fun t200 => ((spec_l06Mask.f k a0 54).bind fun t201 => (if t201.size + a1.size ≤ 9223372036854775807 then ((spec_DigestOf.f k (t201 ++ a1)).bind fun t202 => (if t200.size + t202.size ≤ 9223372036854775807 then ((spec_DigestOf.f k (t200 ++ t202)).bind fun t203 => (some t203)) else (none))) else (none)))) = some r := h
 clear h
 replace H := Option.bind_eq_some_iff.mp H
 obtain ⟨t200, A30, H⟩ := H
 replace H : ((spec_l06Mask.f k a0 54).bind fun t201 => (if t201.size + a1.size ≤ 9223372036854775807 then ((spec_DigestOf.f k (t201 ++ a1)).bind fun t202 => (if t200.size + t202.size ≤ 9223372036854775807 then ((spec_DigestOf.f k (t200 ++ t202)).bind fun t203 => (some t203)) else (none))) else (none))) = some r := H
 have A3 := Aside0.mk A30
 clear A30
 replace H := Option.bind_eq_some_iff.mp H
 obtain ⟨t201, A40, H⟩ := H
 replace H : (if t201.size + a1.size ≤ 9223372036854775807 then ((spec_DigestOf.f k (t201 ++ a1)).bind fun t202 => (if t200.size + t202.size ≤ 9223372036854775807 then ((spec_DigestOf.f k (t200 ++ t202)).bind fun t203 => (some t203)) else (none))) else (none)) = some r := H
 have A4 := Aside0.mk A40
 clear A40
 by_cases c5 : t201.size + a1.size ≤ 9223372036854775807
 ·rw [if_pos c5] at H
  have c5b0 := eq_true c5
  have c5b1 : decide (t201.size + a1.size ≤ 9223372036854775807) = true := decide_eq_true c5
  try have c5b2 : (9223372036854775807 < t201.size + a1.size) = False := eq_false (Nat.not_lt.2 c5)
  replace H := Option.bind_eq_some_iff.mp H
  obtain ⟨t202, A60, H⟩ := H
  replace H : (if t200.size + t202.size ≤ 9223372036854775807 then ((spec_DigestOf.f k (t200 ++ t202)).bind fun t203 => (some t203)) else (none)) = some r := H
  have A6 := Aside0.mk A60
  clear A60
  by_cases c7 : t200.size + t202.size ≤ 9223372036854775807
  ·rw [if_pos c7] at H
   have c7b0 := eq_true c7
   have c7b1 : decide (t200.size + t202.size ≤ 9223372036854775807) = true := decide_eq_true c7
   try have c7b2 : (9223372036854775807 < t200.size + t202.size) = False := eq_false (Nat.not_lt.2 c7)
   replace H := Option.bind_eq_some_iff.mp H
   obtain ⟨t203, A80, H⟩ := H
   replace H : (some t203) = some r := H
   have A8 := Aside0.mk A80
   clear A80
   obtain rfl := Option.some.inj H
   go_enter Tryd.func63, Tryd.ntmps63
   go_wp2_with (first | ((with_reducible refine gate_callee (f := 107) rfl ?_); refine goesL_ (some 6) rfl rfl Tryd.func107 (by kernel_rfl) rfl #[.string a0, .int .u8 92] rfl aM_ ?_; (with_reducible refine (spec_l06Mask.calls k a0 92 t200 _ A3.out).mono ?_); rintro e w9 ⟨rfl, hb⟩; refine ⟨_, rfl, ?_⟩; have n0_ := Aside0.mk (below_step (hB_) hb); clear HB; have HB := n0_; clear n0_; (try clear hb); (try clear hb2); (try clear hk); (try clear hi)) | ((with_reducible refine gate_callee (f := 107) rfl ?_); refine goesL_ (some 8) rfl rfl Tryd.func107 (by kernel_rfl) rfl #[.string a0, .int .u8 54] rfl aM_ ?_; (with_reducible refine (spec_l06Mask.calls k a0 54 t201 _ A4.out).mono ?_); rintro e w10 ⟨rfl, hb⟩; refine ⟨_, rfl, ?_⟩; have n0_ := Aside0.mk (below_step (hB_) hb); clear HB; have HB := n0_; clear n0_; (try clear hb); (try clear hb2); (try clear hk); (try clear hi)) | ((with_reducible refine gate_callee (f := 106) rfl ?_); refine goesL_ (some 11) rfl rfl Tryd.func106 (by kernel_rfl) rfl #[.string (t201 ++ a1)] rfl aM_ ?_; (with_reducible refine (spec_DigestOf.calls k (t201 ++ a1) t202 _ A6.out).mono ?_); rintro e w11 ⟨rfl, hb⟩; refine ⟨_, rfl, ?_⟩; have n0_ := Aside0.mk (below_step (hB_) hb); clear HB; have HB := n0_; clear n0_; (try clear hb); (try clear hb2); (try clear hk); (try clear hi)) | ((with_reducible refine gate_callee (f := 106) rfl ?_); refine goesL_ (some 13) rfl rfl Tryd.func106 (by kernel_rfl) rfl #[.string (t200 ++ t202)] rfl aM_ ?_; (with_reducible refine (spec_DigestOf.calls k (t200 ++ t202) t203 _ A8.out).mono ?_); rintro e w12 ⟨rfl, hb⟩; refine ⟨_, rfl, ?_⟩; have n0_ := Aside0.mk (below_step (hB_) hb); clear HB; have HB := n0_; clear n0_; (try clear hb); (try clear hb2); (try clear hk); (try clear hi)))
   go_ret
   exact ⟨by first | rfl | (simp [errW_none, errW_some] <;> rfl) | (simp [*, errW_none, errW_some] <;> rfl), hB_⟩
  ·rw [if_neg c7] at H
   exact absurd H (by simp)
 ·rw [if_neg c5] at H
  exact absurd H (by simp)

end Go.Proofs.YtjcmafoepabpkaaDoor.P
