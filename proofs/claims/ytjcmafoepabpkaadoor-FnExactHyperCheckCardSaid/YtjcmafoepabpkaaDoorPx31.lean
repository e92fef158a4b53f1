-- printed texts of this session, regrouped
import Derived.Test.YtjcmafoepabpkaaDoorPx0
import Derived.Test.YtjcmafoepabpkaaDoorPx3
import Derived.Test.YtjcmafoepabpkaaDoorPx23
namespace Go.Proofs.YtjcmafoepabpkaaDoor.P
open Go.RowKit Go.Proofs.YtjcmafoepabpkaaDoorW.PrintWords Go.Proofs.YtjcmafoepabpkaaDoorW.PrintLast Go.Proofs.YtjcmafoepabpkaaDoorW.PrintMore
attribute [local go_sem] max2_int min2_int max_two min_two max_three min_three max_four min_four   -- for this text's walks alone
set_option linter.unusedVariables false
set_option linter.unusedSimpArgs false

/-! ### spec_Node: function 114 -/
def spec_Node.f (k : Nat) (a0 : Int) (a1 : Int) (a2 : ByteArray) (a3 : ByteArray) : Option (ByteArray) := (spec_l06Byte.f a0).bind fun t450 => ((spec_l06Byte.f a1).bind fun t451 => (if t450.size + t451.size ≤ 9223372036854775807 then (if (t450 ++ t451).size + a2.size ≤ 9223372036854775807 then (if ((t450 ++ t451) ++ a2).size + a3.size ≤ 9223372036854775807 then (if (((t450 ++ t451) ++ a2) ++ a3).size + 1 ≤ 9223372036854775807 then ((spec_Chop.f k ((((t450 ++ t451) ++ a2) ++ a3) ++ (⟨#[110]⟩ : ByteArray))).bind fun t452 => (some t452)) else (none)) else (none)) else (none)) else (none)))
theorem spec_Node.mono : ∀ a0 a1 a2 a3 k, LeO (spec_Node.f k a0 a1 a2 a3) (spec_Node.f (k + 1) a0 a1 a2 a3) := by
 intro a0 a1 a2 a3 k
 unfold spec_Node.f
 repeat' first
   | (with_reducible exact spec_Chop.mono _ _)
   | (with_reducible exact LeO.refl _)
   | (with_reducible exact LeO.none _)
   | (with_reducible refine LeO.ite ?_ ?_)
   | (with_reducible refine LeO.bind ?_ (fun _ => ?_))
   | exact spec_Chop.mono _ _
   | exact LeO.none _
   | refine LeO.ite ?_ ?_
   | refine LeO.bind ?_ (fun _ => ?_)
set_option maxHeartbeats 8000000 in
set_option maxRecDepth 100000 in
theorem spec_Node.calls (k : Nat) (a0 : Int) (a1 : Int) (a2 : ByteArray) (a3 : ByteArray) (r : ByteArray) (w : World) (h : spec_Node.f k a0 a1 a2 a3 = some r) :
  Calls Tryd.prog 114 #[.int .i64 a0, .int .i64 a1, .string a2, .string a3] w fun e w' => e = .returned (.string r) ∧ Below w.heap.size w w' := by
 have HB := Aside0.mk (Below.refl w.heap.size w)
 have H : ((spec_l06Byte.f a0).bind fun t450 => ((spec_l06Byte.f a1).bind fun t451 => (if t450.size + t451.size ≤ 9223372036854775807 then (if (t450 ++ t451).size + a2.size ≤ 9223372036854775807 then (if ((t450 ++ t451) ++ a2).size + a3.size ≤ 9223372036854775807 then (if (((t450 ++ t451) ++ a2) ++ a3).size + 1 ≤ 9223372036854775807 then ((spec_Chop.f k ((((t450 ++ t451) ++ a2) ++ a3) ++ (⟨#[110]⟩ : ByteArray))).bind fun t452 => (some t452)) else (none)) else (none)) else (none)) else (none)))) = some r := h
 clear h
 replace H := Option.bind_eq_some_iff.mp H
 obtain ⟨t450, A50, H⟩ := H
 replace H : ((spec_l06Byte.f a1).bind fun t451 => (if t450.size + t451.size ≤ 9223372036854775807 then (if (t450 ++ t451).size + a2.size ≤ 9223372036854775807 then (if ((t450 ++ t451) ++ a2).size + a3.size ≤ 9223372036854775807 then (if (((t450 ++ t451) ++ a2) ++ a3).size + 1 ≤ 9223372036854775807 then ((spec_Chop.f k ((((t450 ++ t451) ++ a2) ++ a3) ++ (⟨#[110]⟩ : ByteArray))).bind fun t452 => (some t452)) else (none)) else (none)) else (none)) else (none))) = some r := H
 have A5 := Aside0.mk A50
 clear A50
 replace H := Option.bind_eq_some_iff.mp H
 obtain ⟨t451, A60, H⟩ := H
 replace H : (if t450.size + t451.size ≤ 9223372036854775807 then (if (t450 ++ t451).size + a2.size ≤ 9223372036854775807 then (if ((t450 ++ t451) ++ a2).size + a3.size ≤ 9223372036854775807 then (if (((t450 ++ t451) ++ a2) ++ a3).size + 1 ≤ 9223372036854775807 then ((spec_Chop.f k ((((t450 ++ t451) ++ a2) ++ a3) ++ (⟨#[110]⟩ : ByteArray))).bind fun t452 => (some t452)) else (none)) else (none)) else (none)) else (none)) = some r := H
 have A6 := Aside0.mk A60
 clear A60
 by_cases c7 : t450.size + t451.size ≤ 9223372036854775807
 ·rw [if_pos c7] at H
  have c7b0 := eq_true c7
  have c7b1 : decide (t450.size + t451.size ≤ 9223372036854775807) = true := decide_eq_true c7
  try have c7b2 : (9223372036854775807 < t450.size + t451.size) = False := eq_false (Nat.not_lt.2 c7)
  by_cases c8 : (t450 ++ t451).size + a2.size ≤ 9223372036854775807
  ·rw [if_pos c8] at H
   have c8b0 := eq_true c8
   have c8b1 : decide ((t450 ++ t451).size + a2.size ≤ 9223372036854775807) = true := decide_eq_true c8
   try have c8b2 : (9223372036854775807 < (t450 ++ t451).size + a2.size) = False := eq_false (Nat.not_lt.2 c8)
   try (have c8b9 : (9223372036854775807 < (t450 ++ t451).size + a2.size) = False := c8b2; simp only [ByteArray.size_append] at c8b9)
   by_cases c9 : ((t450 ++ t451) ++ a2).size + a3.size ≤ 9223372036854775807
   ·rw [if_pos c9] at H
    have c9b0 := eq_true c9
    have c9b1 : decide (((t450 ++ t451) ++ a2).size + a3.size ≤ 9223372036854775807) = true := decide_eq_true c9
    try have c9b2 : (9223372036854775807 < ((t450 ++ t451) ++ a2).size + a3.size) = False := eq_false (Nat.not_lt.2 c9)
    try (have c9b9 : (9223372036854775807 < ((t450 ++ t451) ++ a2).size + a3.size) = False := c9b2; simp only [ByteArray.size_append] at c9b9)
    by_cases c10 : (((t450 ++ t451) ++ a2) ++ a3).size + 1 ≤ 9223372036854775807
    ·rw [if_pos c10] at H
     have c10b0 := eq_true c10
     have c10b1 : decide ((((t450 ++ t451) ++ a2) ++ a3).size + 1 ≤ 9223372036854775807) = true := decide_eq_true c10
     try have c10b2 : (9223372036854775807 < (((t450 ++ t451) ++ a2) ++ a3).size + 1) = False := eq_false (Nat.not_lt.2 c10)
     try (have c10b9 : (9223372036854775807 < (((t450 ++ t451) ++ a2) ++ a3).size + 1) = False := c10b2; simp only [ByteArray.size_append] at c10b9)
     replace H := Option.bind_eq_some_iff.mp H
     obtain ⟨t452, A110, H⟩ := H
     replace H : (some t452) = some r := H
     have A11 := Aside0.mk A110
     clear A110
     obtain rfl := Option.some.inj H
     go_enter Tryd.func114, Tryd.ntmps114
     go_wp2_with (first | ((with_reducible refine gate_callee (f := 65) rfl ?_); refine goesL_ (some 10) rfl rfl Tryd.func65 (by kernel_rfl) rfl #[.int .i64 a0] rfl (by (try simp only [List.map_toArray, List.map_cons, List.map_nil]); first | done | rfl | (simp only [List.length_drop, List.length_take]; rfl)) ?_; (with_reducible refine (spec_l06Byte.calls a0 t450 _ A5.out).mono ?_); rintro e w12 ⟨rfl, hb⟩; refine ⟨_, rfl, ?_⟩; have n0_ := Aside0.mk (below_step (by repeat (first | (with_reducible first | exact HB.out | apply below_alloc | apply pw_below_drewN | apply below_drew1) | exact HB.out)) hb); clear HB; have HB := n0_; clear n0_; (try clear hb); (try clear hb2); (try clear hk); (try clear hi)) | ((with_reducible refine gate_callee (f := 65) rfl ?_); refine goesL_ (some 12) rfl rfl Tryd.func65 (by kernel_rfl) rfl #[.int .i64 a1] rfl (by (try simp only [List.map_toArray, List.map_cons, List.map_nil]); first | done | rfl | (simp only [List.length_drop, List.length_take]; rfl)) ?_; (with_reducible refine (spec_l06Byte.calls a1 t451 _ A6.out).mono ?_); rintro e w13 ⟨rfl, hb⟩; refine ⟨_, rfl, ?_⟩; have n0_ := Aside0.mk (below_step (by repeat (first | (with_reducible first | exact HB.out | apply below_alloc | apply pw_below_drewN | apply below_drew1) | exact HB.out)) hb); clear HB; have HB := n0_; clear n0_; (try clear hb); (try clear hb2); (try clear hk); (try clear hi)) | ((with_reducible refine gate_callee (f := 72) rfl ?_); refine goesL_ (some 19) rfl rfl Tryd.func72 (by kernel_rfl) rfl #[.string ((((t450 ++ t451) ++ a2) ++ a3) ++ (⟨#[110]⟩ : ByteArray))] rfl (by (try simp only [List.map_toArray, List.map_cons, List.map_nil]); first | done | rfl | (simp only [List.length_drop, List.length_take]; rfl)) ?_; (with_reducible refine (spec_Chop.calls k ((((t450 ++ t451) ++ a2) ++ a3) ++ (⟨#[110]⟩ : ByteArray)) t452 _ A11.out).mono ?_); rintro e w14 ⟨rfl, hb⟩; refine ⟨_, rfl, ?_⟩; have n0_ := Aside0.mk (below_step (by repeat (first | (with_reducible first | exact HB.out | apply below_alloc | apply pw_below_drewN | apply below_drew1) | exact HB.out)) hb); clear HB; have HB := n0_; clear n0_; (try clear hb); (try clear hb2); (try clear hk); (try clear hi)))
     go_ret
     exact ⟨by first | rfl | (simp [errW_none, errW_some] <;> rfl) | (simp [*, errW_none, errW_some] <;> rfl), by repeat (first | (with_reducible first | exact HB.out | apply below_alloc | apply pw_below_drewN | apply below_drew1) | exact HB.out)⟩
    ·rw [if_neg c10] at H
     exact absurd H (by simp)
   ·rw [if_neg c9] at H
    exact absurd H (by simp)
  ·rw [if_neg c8] at H
   exact absurd H (by simp)
 ·rw [if_neg c7] at H
  exact absurd H (by simp)

end Go.Proofs.YtjcmafoepabpkaaDoor.P
