-- PRINTED by print.py (a twelfth state) out of the translation. Not trusted: Lean checks it.
import Derived.Test.YtojdllodojbnfaaDoorHA5
import Derived.Test.YtojdllodojbnfaaDoorHA4
import Derived.Test.YtojdllodojbnfaaDoorPx0
import Derived.Test.YtojdllodojbnfaaDoorPx5
import Derived.Test.YtojdllodojbnfaaDoorPx6
namespace Go.Proofs.YtojdllodojbnfaaDoor.P
open Go.RowKit Go.Proofs.YtojdllodojbnfaaDoorW.PrintWords Go.Proofs.YtojdllodojbnfaaDoorW.PrintLast Go.Proofs.YtojdllodojbnfaaDoorW.PrintMore
attribute [local go_sem] max2_int min2_int max_two min_two max_three min_three max_four min_four   -- for this text's walks alone
set_option linter.unusedVariables false
set_option linter.unusedSimpArgs false

/-! ### spec_DigestOf: function 38 -/
def spec_DigestOf.f (k : Nat) (a0 : ByteArray) : Option (ByteArray) := (spec_HasherNew.f k).bind fun bt193 => ((spec_HashMore.f k bt193.1 bt193.2.1 bt193.2.2 a0).bind fun bt196 => ((spec_HashEnd.f k bt196.1 bt196.2.1 bt196.2.2).bind fun t199 => (some t199)))
theorem spec_DigestOf.mono : ∀ a0 k, LeO (spec_DigestOf.f k a0) (spec_DigestOf.f (k + 1) a0) := by
 intro a0 k
 unfold spec_DigestOf.f
 repeat' first
   | (with_reducible exact spec_HashEnd.mono _ _ _ _)
   | (with_reducible exact spec_HashMore.mono _ _ _ _ _)
   | (with_reducible exact spec_HasherNew.mono _)
   | (with_reducible exact LeO.refl _)
   | (with_reducible exact LeO.none _)
   | (with_reducible refine LeO.ite ?_ ?_)
   | (with_reducible refine LeO.bind ?_ (fun _ => ?_))
   | exact spec_HashEnd.mono _ _ _ _
   | exact spec_HashMore.mono _ _ _ _ _
   | exact spec_HasherNew.mono _
   | exact LeO.none _
   | refine LeO.ite ?_ ?_
   | refine LeO.bind ?_ (fun _ => ?_)
set_option maxHeartbeats 8000000 in
set_option maxRecDepth 100000 in
theorem spec_DigestOf.calls (k : Nat) (a0 : ByteArray) (r : ByteArray) (w : World) (h : spec_DigestOf.f k a0 = some r) :
  Calls Tryd.prog 38 #[.string a0] w fun e w' => e = .returned (.string r) ∧ Below w.heap.size w w' := by
 have HB := Aside0.mk (Below.refl w.heap.size w)
 have H : ((spec_HasherNew.f k).bind fun bt193 => ((spec_HashMore.f k bt193.1 bt193.2.1 bt193.2.2 a0).bind fun bt196 => ((spec_HashEnd.f k bt196.1 bt196.2.1 bt196.2.2).bind fun t199 => (some t199)))) = some r := h
 clear h
 replace H := Option.bind_eq_some_iff.mp H
 obtain ⟨⟨t193, t194, t195⟩, A20, H⟩ := H
 replace H : ((spec_HashMore.f k t193 t194 t195 a0).bind fun bt196 => ((spec_HashEnd.f k bt196.1 bt196.2.1 bt196.2.2).bind fun t199 => (some t199))) = some r := H
 have A2 := Aside0.mk A20
 clear A20
 replace H := Option.bind_eq_some_iff.mp H
 obtain ⟨⟨t196, t197, t198⟩, A30, H⟩ := H
 replace H : ((spec_HashEnd.f k t196 t197 t198).bind fun t199 => (some t199)) = some r := H
 have A3 := Aside0.mk A30
 clear A30
 replace H := Option.bind_eq_some_iff.mp H
 obtain ⟨t199, A40, H⟩ := H
 replace H : (some t199) = some r := H
 have A4 := Aside0.mk A40
 clear A40
 obtain rfl := Option.some.inj H
 go_enter Tryd.func38, Tryd.ntmps38
 go_wp2_with (first | ((with_reducible refine gate_callee (f := 50) rfl ?_); refine goesL_ (some 3) rfl rfl Tryd.func50 (by kernel_rfl) rfl #[] rfl (by (try simp only [List.map_toArray, List.map_cons, List.map_nil]); first | done | rfl | (simp only [List.length_drop, List.length_take]; rfl)) ?_; (with_reducible refine (spec_HasherNew.calls k  t193 t194 t195 _ A2.out).mono ?_); rintro e w5 ⟨rfl, hb⟩; refine ⟨_, rfl, ?_⟩; have n0_ := Aside0.mk (below_step (by repeat (first | (with_reducible first | exact HB.out | apply below_alloc | apply pw_below_drewN | apply below_drew1) | exact HB.out)) hb); clear HB; have HB := n0_; clear n0_; (try clear hb); (try clear hb2); (try clear hk); (try clear hi)) | ((with_reducible refine gate_callee (f := 49) rfl ?_); refine goesL_ (some 5) rfl rfl Tryd.func49 (by kernel_rfl) rfl #[.agg #[.string t193, .string t194, .int .i64 t195], .string a0] rfl (by (try simp only [List.map_toArray, List.map_cons, List.map_nil]); first | done | rfl | (simp only [List.length_drop, List.length_take]; rfl)) ?_; (with_reducible refine (spec_HashMore.calls k t193 t194 t195 a0 t196 t197 t198 _ A3.out).mono ?_); rintro e w6 ⟨rfl, hb⟩; refine ⟨_, rfl, ?_⟩; have n0_ := Aside0.mk (below_step (by repeat (first | (with_reducible first | exact HB.out | apply below_alloc | apply pw_below_drewN | apply below_drew1) | exact HB.out)) hb); clear HB; have HB := n0_; clear n0_; (try clear hb); (try clear hb2); (try clear hk); (try clear hi)) | ((with_reducible refine gate_callee (f := 48) rfl ?_); refine goesL_ (some 6) rfl rfl Tryd.func48 (by kernel_rfl) rfl #[.agg #[.string t196, .string t197, .int .i64 t198]] rfl (by (try simp only [List.map_toArray, List.map_cons, List.map_nil]); first | done | rfl | (simp only [List.length_drop, List.length_take]; rfl)) ?_; (with_reducible refine (spec_HashEnd.calls k t196 t197 t198 t199 _ A4.out).mono ?_); rintro e w7 ⟨rfl, hb⟩; refine ⟨_, rfl, ?_⟩; have n0_ := Aside0.mk (below_step (by repeat (first | (with_reducible first | exact HB.out | apply below_alloc | apply pw_below_drewN | apply below_drew1) | exact HB.out)) hb); clear HB; have HB := n0_; clear n0_; (try clear hb); (try clear hb2); (try clear hk); (try clear hi)))
 go_ret
 exact ⟨by first | rfl | (simp [errW_none, errW_some] <;> rfl) | (simp [*, errW_none, errW_some] <;> rfl), by repeat (first | (with_reducible first | exact HB.out | apply below_alloc | apply pw_below_drewN | apply below_drew1) | exact HB.out)⟩

/-! ### spec_Chop: function 12 -/
def spec_Chop.f (k : Nat) (a0 : ByteArray) : Option (ByteArray) := (spec_DigestOf.f k a0).bind fun t200 => (if 0 ≤ 4 then (if 4 ≤ (t200.size : Int) then (some (t200.extract 0 4)) else (none)) else (none))
theorem spec_Chop.mono : ∀ a0 k, LeO (spec_Chop.f k a0) (spec_Chop.f (k + 1) a0) := by
 intro a0 k
 unfold spec_Chop.f
 repeat' first
   | (with_reducible exact spec_DigestOf.mono _ _)
   | (with_reducible exact LeO.refl _)
   | (with_reducible exact LeO.none _)
   | (with_reducible refine LeO.ite ?_ ?_)
   | (with_reducible refine LeO.bind ?_ (fun _ => ?_))
   | exact spec_DigestOf.mono _ _
   | exact LeO.none _
   | refine LeO.ite ?_ ?_
   | refine LeO.bind ?_ (fun _ => ?_)
set_option maxHeartbeats 8000000 in
set_option maxRecDepth 100000 in
theorem spec_Chop.calls (k : Nat) (a0 : ByteArray) (r : ByteArray) (w : World) (h : spec_Chop.f k a0 = some r) :
  Calls Tryd.prog 12 #[.string a0] w fun e w' => e = .returned (.string r) ∧ Below w.heap.size w w' := by
 have HB := Aside0.mk (Below.refl w.heap.size w)
 have H : ((spec_DigestOf.f k a0).bind fun t200 => (if 0 ≤ 4 then (if 4 ≤ (t200.size : Int) then (some (t200.extract 0 4)) else (none)) else (none))) = some r := h
 clear h
 replace H := Option.bind_eq_some_iff.mp H
 obtain ⟨t200, A20, H⟩ := H
 replace H : (if 0 ≤ 4 then (if 4 ≤ (t200.size : Int) then (some (t200.extract 0 4)) else (none)) else (none)) = some r := H
 have A2 := Aside0.mk A20
 clear A20
 by_cases c3 : 0 ≤ 4
 ·rw [if_pos c3] at H
  have c3b0 := eq_true c3
  have c3b1 : decide (0 ≤ 4) = true := decide_eq_true c3
  clear c3
  by_cases c4 : 4 ≤ (t200.size : Int)
  ·rw [if_pos c4] at H
   have c4b0 := eq_true c4
   have c4b1 : decide (4 ≤ (t200.size : Int)) = true := decide_eq_true c4
   clear c4
   obtain rfl := Option.some.inj H
   go_enter Tryd.func12, Tryd.ntmps12
   go_wp2_with (first | ((with_reducible refine gate_callee (f := 38) rfl ?_); refine goesL_ (some 4) rfl rfl Tryd.func38 (by kernel_rfl) rfl #[.string a0] rfl (by (try simp only [List.map_toArray, List.map_cons, List.map_nil]); first | done | rfl | (simp only [List.length_drop, List.length_take]; rfl)) ?_; (with_reducible refine (spec_DigestOf.calls k a0 t200 _ A2.out).mono ?_); rintro e w5 ⟨rfl, hb⟩; refine ⟨_, rfl, ?_⟩; have n0_ := Aside0.mk (below_step (by repeat (first | (with_reducible first | exact HB.out | apply below_alloc | apply pw_below_drewN | apply below_drew1) | exact HB.out)) hb); clear HB; have HB := n0_; clear n0_; (try clear hb); (try clear hb2); (try clear hk); (try clear hi)))
   go_ret
   exact ⟨by first | rfl | (simp [errW_none, errW_some] <;> rfl) | (simp [*, errW_none, errW_some] <;> rfl), by repeat (first | (with_reducible first | exact HB.out | apply below_alloc | apply pw_below_drewN | apply below_drew1) | exact HB.out)⟩
  ·rw [if_neg c4] at H
   exact absurd H (by simp)
 ·rw [if_neg c3] at H
  exact absurd H (by simp)

/-! ### impl_Chop: function 13 -/
def impl_Chop.f (a0 : ByteArray) : Option (ByteArray) := (impl_DigestOf.f a0).bind fun t212 => (if 0 ≤ 4 then (if 4 ≤ (t212.size : Int) then (some (t212.extract 0 4)) else (none)) else (none))
set_option maxHeartbeats 8000000 in
set_option maxRecDepth 100000 in
theorem impl_Chop.calls (a0 : ByteArray) (r : ByteArray) (w : World) (h : impl_Chop.f a0 = some r) (hLD : Laid w) :
  Calls Tryd.prog 13 #[.string a0] w fun e w' => e = .returned (.string r) ∧ Below w.heap.size w w' := by
 have HLD := Aside0.mk hLD
 clear hLD
 have HB := Aside0.mk (Below.refl w.heap.size w)
 have H : ((impl_DigestOf.f a0).bind fun t212 => (if 0 ≤ 4 then (if 4 ≤ (t212.size : Int) then (some (t212.extract 0 4)) else (none)) else (none))) = some r := h
 clear h
 replace H := Option.bind_eq_some_iff.mp H
 obtain ⟨t212, A20, H⟩ := H
 replace H : (if 0 ≤ 4 then (if 4 ≤ (t212.size : Int) then (some (t212.extract 0 4)) else (none)) else (none)) = some r := H
 have A2 := Aside0.mk A20
 clear A20
 by_cases c3 : 0 ≤ 4
 ·rw [if_pos c3] at H
  have c3b0 := eq_true c3
  have c3b1 : decide (0 ≤ 4) = true := decide_eq_true c3
  clear c3
  by_cases c4 : 4 ≤ (t212.size : Int)
  ·rw [if_pos c4] at H
   have c4b0 := eq_true c4
   have c4b1 : decide (4 ≤ (t212.size : Int)) = true := decide_eq_true c4
   clear c4
   obtain rfl := Option.some.inj H
   go_enter Tryd.func13, Tryd.ntmps13
   go_wp2_with (first | ((with_reducible refine gate_callee (f := 39) rfl ?_); refine goesL_ (some 4) rfl rfl Tryd.func39 (by kernel_rfl) rfl #[.string a0] rfl (by (try simp only [List.map_toArray, List.map_cons, List.map_nil]); first | done | rfl | (simp only [List.length_drop, List.length_take]; rfl)) ?_; (with_reducible refine (impl_DigestOf.calls a0 t212 _ A2.out (HLD.out.below HLD.out.pos (by repeat (first | (with_reducible first | exact HB.out | apply below_alloc | apply pw_below_drewN | apply below_drew1) | exact HB.out)))).mono ?_); rintro e w5 ⟨rfl, hb⟩; refine ⟨_, rfl, ?_⟩; have n0_ := Aside0.mk (below_step (by repeat (first | (with_reducible first | exact HB.out | apply below_alloc | apply pw_below_drewN | apply below_drew1) | exact HB.out)) hb); clear HB; have HB := n0_; clear n0_; (try clear hb); (try clear hb2); (try clear hk); (try clear hi)))
   go_ret
   exact ⟨by first | rfl | (simp [errW_none, errW_some] <;> rfl) | (simp [*, errW_none, errW_some] <;> rfl), by repeat (first | (with_reducible first | exact HB.out | apply below_alloc | apply pw_below_drewN | apply below_drew1) | exact HB.out)⟩
  ·rw [if_neg c4] at H
   exact absurd H (by simp)
 ·rw [if_neg c3] at H
  exact absurd H (by simp)

/-! ### laws_FnExactChop: function 3 -/
def laws_FnExactChop.f (k : Nat) (a0 : ByteArray) : Option (Bool) := if (a0.size : Int) > 1048576 then (some true) else ((spec_Chop.f k a0).bind fun t213 => ((impl_Chop.f a0).bind fun t214 => (if t214.toList = t213.toList then (some true) else (some false))))
theorem laws_FnExactChop.mono : ∀ a0 k, LeO (laws_FnExactChop.f k a0) (laws_FnExactChop.f (k + 1) a0) := by
 intro a0 k
 unfold laws_FnExactChop.f
 repeat' first
   | (with_reducible exact spec_Chop.mono _ _)
   | (with_reducible exact LeO.refl _)
   | (with_reducible exact LeO.none _)
   | (with_reducible refine LeO.ite ?_ ?_)
   | (with_reducible refine LeO.bind ?_ (fun _ => ?_))
   | exact spec_Chop.mono _ _
   | exact LeO.none _
   | refine LeO.ite ?_ ?_
   | refine LeO.bind ?_ (fun _ => ?_)
set_option maxHeartbeats 8000000 in
set_option maxRecDepth 100000 in
theorem laws_FnExactChop.calls (k : Nat) (a0 : ByteArray) (r : Bool) (w : World) (h : laws_FnExactChop.f k a0 = some r) (hLD : Laid w) :
  Calls Tryd.prog 3 #[.string a0] w fun e w' => e = .returned (.bool r) ∧ Below w.heap.size w w' := by
 have HLD := Aside0.mk hLD
 clear hLD
 have HB := Aside0.mk (Below.refl w.heap.size w)
 have H : (if (a0.size : Int) > 1048576 then (some true) else ((spec_Chop.f k a0).bind fun t213 => ((impl_Chop.f a0).bind fun t214 => (if t214.toList = t213.toList then (some true) else (some false))))) = some r := h
 clear h
 by_cases c2 : (a0.size : Int) > 1048576
 ·rw [if_pos c2] at H
  have c2b0 : decide (1048576 < (a0.size : Int)) = true := decide_eq_true c2
  have c2b1 : decide (1048576 < a0.size) = true := decide_eq_true (by omega)
  clear c2
  obtain rfl := Option.some.inj H
  go_enter Tryd.func3, Tryd.ntmps3
  go_wp2
  go_ret
  exact ⟨by first | rfl | (simp [errW_none, errW_some] <;> rfl) | (simp [*, errW_none, errW_some] <;> rfl), by repeat (first | (with_reducible first | exact HB.out | apply below_alloc | apply pw_below_drewN | apply below_drew1) | exact HB.out)⟩
 ·rw [if_neg c2] at H
  have c2b0 : decide (1048576 < (a0.size : Int)) = false := decide_eq_false c2
  have c2b1 : decide (1048576 < a0.size) = false := decide_eq_false (by omega)
  clear c2
  replace H := Option.bind_eq_some_iff.mp H
  obtain ⟨t213, A30, H⟩ := H
  replace H : ((impl_Chop.f a0).bind fun t214 => (if t214.toList = t213.toList then (some true) else (some false))) = some r := H
  have A3 := Aside0.mk A30
  clear A30
  replace H := Option.bind_eq_some_iff.mp H
  obtain ⟨t214, A40, H⟩ := H
  replace H : (if t214.toList = t213.toList then (some true) else (some false)) = some r := H
  have A4 := Aside0.mk A40
  clear A40
  by_cases c5 : t214.toList = t213.toList
  ·rw [if_pos c5] at H
   have c5b0 : (t214.toList == t213.toList) = true := beq_iff_eq.mpr c5
   have c5b1 : (t214.toList != t213.toList) = false := bne_eq_false_iff_eq.mpr c5
   clear c5
   obtain rfl := Option.some.inj H
   go_enter Tryd.func3, Tryd.ntmps3
   go_wp2_with (first | ((with_reducible refine gate_callee (f := 12) rfl ?_); refine goesL_ (some 9) rfl rfl Tryd.func12 (by kernel_rfl) rfl #[.string a0] rfl (by (try simp only [List.map_toArray, List.map_cons, List.map_nil]); first | done | rfl | (simp only [List.length_drop, List.length_take]; rfl)) ?_; (with_reducible refine (spec_Chop.calls k a0 t213 _ A3.out).mono ?_); rintro e w6 ⟨rfl, hb⟩; refine ⟨_, rfl, ?_⟩; have n0_ := Aside0.mk (below_step (by repeat (first | (with_reducible first | exact HB.out | apply below_alloc | apply pw_below_drewN | apply below_drew1) | exact HB.out)) hb); clear HB; have HB := n0_; clear n0_; (try clear hb); (try clear hb2); (try clear hk); (try clear hi)) | ((with_reducible refine gate_callee (f := 13) rfl ?_); refine goesL_ (some 11) rfl rfl Tryd.func13 (by kernel_rfl) rfl #[.string a0] rfl (by (try simp only [List.map_toArray, List.map_cons, List.map_nil]); first | done | rfl | (simp only [List.length_drop, List.length_take]; rfl)) ?_; (with_reducible refine (impl_Chop.calls a0 t214 _ A4.out (HLD.out.below HLD.out.pos (by repeat (first | (with_reducible first | exact HB.out | apply below_alloc | apply pw_below_drewN | apply below_drew1) | exact HB.out)))).mono ?_); rintro e w7 ⟨rfl, hb⟩; refine ⟨_, rfl, ?_⟩; have n0_ := Aside0.mk (below_step (by repeat (first | (with_reducible first | exact HB.out | apply below_alloc | apply pw_below_drewN | apply below_drew1) | exact HB.out)) hb); clear HB; have HB := n0_; clear n0_; (try clear hb); (try clear hb2); (try clear hk); (try clear hi)))
   go_ret
   exact ⟨by first | rfl | (simp [errW_none, errW_some] <;> rfl) | (simp [*, errW_none, errW_some] <;> rfl), by repeat (first | (with_reducible first | exact HB.out | apply below_alloc | apply pw_below_drewN | apply below_drew1) | exact HB.out)⟩
  ·rw [if_neg c5] at H
   have c5b0 : (t214.toList == t213.toList) = false := beq_eq_false_iff_ne.mpr c5
   have c5b1 : (t214.toList != t213.toList) = true := bne_iff_ne.mpr c5
   obtain rfl := Option.some.inj H
   go_enter Tryd.func3, Tryd.ntmps3
   go_wp2_with (first | ((with_reducible refine gate_callee (f := 12) rfl ?_); refine goesL_ (some 9) rfl rfl Tryd.func12 (by kernel_rfl) rfl #[.string a0] rfl (by (try simp only [List.map_toArray, List.map_cons, List.map_nil]); first | done | rfl | (simp only [List.length_drop, List.length_take]; rfl)) ?_; (with_reducible refine (spec_Chop.calls k a0 t213 _ A3.out).mono ?_); rintro e w8 ⟨rfl, hb⟩; refine ⟨_, rfl, ?_⟩; have n0_ := Aside0.mk (below_step (by repeat (first | (with_reducible first | exact HB.out | apply below_alloc | apply pw_below_drewN | apply below_drew1) | exact HB.out)) hb); clear HB; have HB := n0_; clear n0_; (try clear hb); (try clear hb2); (try clear hk); (try clear hi)) | ((with_reducible refine gate_callee (f := 13) rfl ?_); refine goesL_ (some 11) rfl rfl Tryd.func13 (by kernel_rfl) rfl #[.string a0] rfl (by (try simp only [List.map_toArray, List.map_cons, List.map_nil]); first | done | rfl | (simp only [List.length_drop, List.length_take]; rfl)) ?_; (with_reducible refine (impl_Chop.calls a0 t214 _ A4.out (HLD.out.below HLD.out.pos (by repeat (first | (with_reducible first | exact HB.out | apply below_alloc | apply pw_below_drewN | apply below_drew1) | exact HB.out)))).mono ?_); rintro e w9 ⟨rfl, hb⟩; refine ⟨_, rfl, ?_⟩; have n0_ := Aside0.mk (below_step (by repeat (first | (with_reducible first | exact HB.out | apply below_alloc | apply pw_below_drewN | apply below_drew1) | exact HB.out)) hb); clear HB; have HB := n0_; clear n0_; (try clear hb); (try clear hb2); (try clear hk); (try clear hi)))
   go_ret
   exact ⟨by first | rfl | (simp [errW_none, errW_some] <;> rfl) | (simp [*, errW_none, errW_some] <;> rfl), by repeat (first | (with_reducible first | exact HB.out | apply below_alloc | apply pw_below_drewN | apply below_drew1) | exact HB.out)⟩

/-- THE ONE PURE STATEMENT of laws_FnExactChop: yours. -/
def laws_FnExactChop.Pure : Prop := ∀ (a0 : ByteArray), a0.size ≤ 140737488351232 → ∃ k, laws_FnExactChop.f k a0 = some true
theorem laws_FnExactChop.walk (P : laws_FnExactChop.Pure) (a0 : ByteArray) (w : World) (w0 : a0.size ≤ 140737488351232) (hLD : Laid w) :
  Calls Tryd.prog 3 #[.string a0] w fun e w' => e = .returned (.bool true) ∧ Below w.heap.size w w' := by
 have HLD := Aside0.mk hLD
 clear hLD
 obtain ⟨k, h⟩ := P a0 w0
 refine (laws_FnExactChop.calls k a0 true w h HLD.out).mono ?_
 rintro e w' ⟨rfl, hd⟩
 exact ⟨rfl, hd⟩

/-! ### spec_Node: function 14 -/
def spec_Node.f (k : Nat) (a0 : Int) (a1 : Int) (a2 : ByteArray) (a3 : ByteArray) : Option (ByteArray) := (spec_l06Byte.f a0).bind fun t221 => ((spec_l06Byte.f a1).bind fun t222 => (if t221.size + t222.size ≤ 9223372036854775807 then (if (t221 ++ t222).size + a2.size ≤ 9223372036854775807 then (if ((t221 ++ t222) ++ a2).size + a3.size ≤ 9223372036854775807 then (if (((t221 ++ t222) ++ a2) ++ a3).size + 1 ≤ 9223372036854775807 then ((spec_Chop.f k ((((t221 ++ t222) ++ a2) ++ a3) ++ (⟨#[110]⟩ : ByteArray))).bind fun t223 => (some t223)) else (none)) else (none)) else (none)) else (none)))
theorem spec_Node.mono : ∀ a0 a1 a2 a3 k, LeO (spec_Node.f k a0 a1 a2 a3) (spec_Node.f (k + 1) a0 a1 a2 a3) := by
 intro a0 a1 a2 a3 k
 unfold spec_Node.f
 repeat' first
   | (with_reducible exact spec_Chop.mono _ _)
   | (with_reducible exact LeO.refl _)
   | (with_reducible exact LeO.none _)
   | (with_reducible refine LeO.ite ?_ ?_)
   | (with_reducible refine LeO.bind ?_ (fun _ => ?_))
   | exact spec_Chop.mono _ _
   | exact LeO.none _
   | refine LeO.ite ?_ ?_
   | refine LeO.bind ?_ (fun _ => ?_)
set_option maxHeartbeats 8000000 in
set_option maxRecDepth 100000 in
theorem spec_Node.calls (k : Nat) (a0 : Int) (a1 : Int) (a2 : ByteArray) (a3 : ByteArray) (r : ByteArray) (w : World) (h : spec_Node.f k a0 a1 a2 a3 = some r) :
  Calls Tryd.prog 14 #[.int .i64 a0, .int .i64 a1, .string a2, .string a3] w fun e w' => e = .returned (.string r) ∧ Below w.heap.size w w' := by
 have HB := Aside0.mk (Below.refl w.heap.size w)
 have H : ((spec_l06Byte.f a0).bind fun t221 => ((spec_l06Byte.f a1).bind fun t222 => (if t221.size + t222.size ≤ 9223372036854775807 then (if (t221 ++ t222).size + a2.size ≤ 9223372036854775807 then (if ((t221 ++ t222) ++ a2).size + a3.size ≤ 9223372036854775807 then (if (((t221 ++ t222) ++ a2) ++ a3).size + 1 ≤ 9223372036854775807 then ((spec_Chop.f k ((((t221 ++ t222) ++ a2) ++ a3) ++ (⟨#[110]⟩ : ByteArray))).bind fun t223 => (some t223)) else (none)) else (none)) else (none)) else (none)))) = some r := h
 clear h
 replace H := Option.bind_eq_some_iff.mp H
 obtain ⟨t221, A50, H⟩ := H
 replace H : ((spec_l06Byte.f a1).bind fun t222 => (if t221.size + t222.size ≤ 9223372036854775807 then (if (t221 ++ t222).size + a2.size ≤ 9223372036854775807 then (if ((t221 ++ t222) ++ a2).size + a3.size ≤ 9223372036854775807 then (if (((t221 ++ t222) ++ a2) ++ a3).size + 1 ≤ 9223372036854775807 then ((spec_Chop.f k ((((t221 ++ t222) ++ a2) ++ a3) ++ (⟨#[110]⟩ : ByteArray))).bind fun t223 => (some t223)) else (none)) else (none)) else (none)) else (none))) = some r := H
 have A5 := Aside0.mk A50
 clear A50
 replace H := Option.bind_eq_some_iff.mp H
 obtain ⟨t222, A60, H⟩ := H
 replace H : (if t221.size + t222.size ≤ 9223372036854775807 then (if (t221 ++ t222).size + a2.size ≤ 9223372036854775807 then (if ((t221 ++ t222) ++ a2).size + a3.size ≤ 9223372036854775807 then (if (((t221 ++ t222) ++ a2) ++ a3).size + 1 ≤ 9223372036854775807 then ((spec_Chop.f k ((((t221 ++ t222) ++ a2) ++ a3) ++ (⟨#[110]⟩ : ByteArray))).bind fun t223 => (some t223)) else (none)) else (none)) else (none)) else (none)) = some r := H
 have A6 := Aside0.mk A60
 clear A60
 by_cases c7 : t221.size + t222.size ≤ 9223372036854775807
 ·rw [if_pos c7] at H
  have c7b0 := eq_true c7
  have c7b1 : decide (t221.size + t222.size ≤ 9223372036854775807) = true := decide_eq_true c7
  try have c7b2 : (9223372036854775807 < t221.size + t222.size) = False := eq_false (Nat.not_lt.2 c7)
  by_cases c8 : (t221 ++ t222).size + a2.size ≤ 9223372036854775807
  ·rw [if_pos c8] at H
   have c8b0 := eq_true c8
   have c8b1 : decide ((t221 ++ t222).size + a2.size ≤ 9223372036854775807) = true := decide_eq_true c8
   try have c8b2 : (9223372036854775807 < (t221 ++ t222).size + a2.size) = False := eq_false (Nat.not_lt.2 c8)
   try (have c8b9 : (9223372036854775807 < (t221 ++ t222).size + a2.size) = False := c8b2; simp only [ByteArray.size_append] at c8b9)
   by_cases c9 : ((t221 ++ t222) ++ a2).size + a3.size ≤ 9223372036854775807
   ·rw [if_pos c9] at H
    have c9b0 := eq_true c9
    have c9b1 : decide (((t221 ++ t222) ++ a2).size + a3.size ≤ 9223372036854775807) = true := decide_eq_true c9
    try have c9b2 : (9223372036854775807 < ((t221 ++ t222) ++ a2).size + a3.size) = False := eq_false (Nat.not_lt.2 c9)
    try (have c9b9 : (9223372036854775807 < ((t221 ++ t222) ++ a2).size + a3.size) = False := c9b2; simp only [ByteArray.size_append] at c9b9)
    by_cases c10 : (((t221 ++ t222) ++ a2) ++ a3).size + 1 ≤ 9223372036854775807
    ·rw [if_pos c10] at H
     have c10b0 := eq_true c10
     have c10b1 : decide ((((t221 ++ t222) ++ a2) ++ a3).size + 1 ≤ 9223372036854775807) = true := decide_eq_true c10
     try have c10b2 : (9223372036854775807 < (((t221 ++ t222) ++ a2) ++ a3).size + 1) = False := eq_false (Nat.not_lt.2 c10)
     try (have c10b9 : (9223372036854775807 < (((t221 ++ t222) ++ a2) ++ a3).size + 1) = False := c10b2; simp only [ByteArray.size_append] at c10b9)
     replace H := Option.bind_eq_some_iff.mp H
     obtain ⟨t223, A110, H⟩ := H
     replace H : (some t223) = some r := H
     have A11 := Aside0.mk A110
     clear A110
     obtain rfl := Option.some.inj H
     go_enter Tryd.func14, Tryd.ntmps14
     go_wp2_with (first | ((with_reducible refine gate_callee (f := 40) rfl ?_); refine goesL_ (some 10) rfl rfl Tryd.func40 (by kernel_rfl) rfl #[.int .i64 a0] rfl (by (try simp only [List.map_toArray, List.map_cons, List.map_nil]); first | done | rfl | (simp only [List.length_drop, List.length_take]; rfl)) ?_; (with_reducible refine (spec_l06Byte.calls a0 t221 _ A5.out).mono ?_); rintro e w12 ⟨rfl, hb⟩; refine ⟨_, rfl, ?_⟩; have n0_ := Aside0.mk (below_step (by repeat (first | (with_reducible first | exact HB.out | apply below_alloc | apply pw_below_drewN | apply below_drew1) | exact HB.out)) hb); clear HB; have HB := n0_; clear n0_; (try clear hb); (try clear hb2); (try clear hk); (try clear hi)) | ((with_reducible refine gate_callee (f := 40) rfl ?_); refine goesL_ (some 12) rfl rfl Tryd.func40 (by kernel_rfl) rfl #[.int .i64 a1] rfl (by (try simp only [List.map_toArray, List.map_cons, List.map_nil]); first | done | rfl | (simp only [List.length_drop, List.length_take]; rfl)) ?_; (with_reducible refine (spec_l06Byte.calls a1 t222 _ A6.out).mono ?_); rintro e w13 ⟨rfl, hb⟩; refine ⟨_, rfl, ?_⟩; have n0_ := Aside0.mk (below_step (by repeat (first | (with_reducible first | exact HB.out | apply below_alloc | apply pw_below_drewN | apply below_drew1) | exact HB.out)) hb); clear HB; have HB := n0_; clear n0_; (try clear hb); (try clear hb2); (try clear hk); (try clear hi)) | ((with_reducible refine gate_callee (f := 12) rfl ?_); refine goesL_ (some 19) rfl rfl Tryd.func12 (by kernel_rfl) rfl #[.string ((((t221 ++ t222) ++ a2) ++ a3) ++ (⟨#[110]⟩ : ByteArray))] rfl (by (try simp only [List.map_toArray, List.map_cons, List.map_nil]); first | done | rfl | (simp only [List.length_drop, List.length_take]; rfl)) ?_; (with_reducible refine (spec_Chop.calls k ((((t221 ++ t222) ++ a2) ++ a3) ++ (⟨#[110]⟩ : ByteArray)) t223 _ A11.out).mono ?_); rintro e w14 ⟨rfl, hb⟩; refine ⟨_, rfl, ?_⟩; have n0_ := Aside0.mk (below_step (by repeat (first | (with_reducible first | exact HB.out | apply below_alloc | apply pw_below_drewN | apply below_drew1) | exact HB.out)) hb); clear HB; have HB := n0_; clear n0_; (try clear hb); (try clear hb2); (try clear hk); (try clear hi)))
     go_ret
     exact ⟨by first | rfl | (simp [errW_none, errW_some] <;> rfl) | (simp [*, errW_none, errW_some] <;> rfl), by repeat (first | (with_reducible first | exact HB.out | apply below_alloc | apply pw_below_drewN | apply below_drew1) | exact HB.out)⟩
    ·rw [if_neg c10] at H
     exact absurd H (by simp)
   ·rw [if_neg c9] at H
    exact absurd H (by simp)
  ·rw [if_neg c8] at H
   exact absurd H (by simp)
 ·rw [if_neg c7] at H
  exact absurd H (by simp)

end Go.Proofs.YtojdllodojbnfaaDoor.P
