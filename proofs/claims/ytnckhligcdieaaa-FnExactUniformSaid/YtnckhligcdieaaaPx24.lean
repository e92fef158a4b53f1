-- printed texts of this session, regrouped
import Derived.Test.YtnckhligcdieaaaMW6
import Derived.Test.YtnckhligcdieaaaPx0
import Derived.Test.YtnckhligcdieaaaPx4
import Derived.Test.YtnckhligcdieaaaPx22
import Derived.Test.YtnckhligcdieaaaPx23
namespace Go.Proofs.Ytnckhligcdieaaa.P
open Go.RowKit Go.Proofs.YtnckhligcdieaaaW.PrintWords Go.Proofs.YtnckhligcdieaaaW.PrintLast Go.Proofs.YtnckhligcdieaaaW.PrintMore
attribute [local go_sem] max2_int min2_int max_two min_two max_three min_three max_four min_four   -- for this text's walks alone
set_option linter.unusedVariables false
set_option linter.unusedSimpArgs false

/-! ### laws_FnExactUniform: function 4 -/
def laws_FnExactUniform.f (k : Nat) (a0 : ByteArray) (a1 : Int) (a2 : Int) : Option (Bool) := if (a0.size : Int) > 1048576 then (some true) else ((spec_Uniform.f k a0 a1 a2).bind fun t282 => ((impl_Uniform.f k a0 a1 a2).bind fun t285 => ((laws_eqIntS.f k t285 t282).bind fun t288 => (if t288 = true then ((laws_markIntS.f k t285 1).bind fun bt289 => ((laws_heldIntS.f k bt289.2 1).bind fun t291 => (if t291 < 0 then (none) else (if t291 = bt289.1 then ((impl_Uniform.f k a0 a1 a2).bind fun t292 => ((laws_eqIntS.f k t292 t282).bind fun t295 => (if t295 = true then ((laws_heldIntS.f k bt289.2 1).bind fun t296 => (if t296 < 0 then (none) else (if t296 = bt289.1 then (some true) else (none)))) else (none)))) else (none))))) else (none)))))
theorem laws_FnExactUniform.mono : ∀ a0 a1 a2 k, LeO (laws_FnExactUniform.f k a0 a1 a2) (laws_FnExactUniform.f (k + 1) a0 a1 a2) := by
 intro a0 a1 a2 k
 unfold laws_FnExactUniform.f
 repeat' first
   | (with_reducible exact impl_Uniform.mono _ _ _ _)
   | (with_reducible exact laws_eqIntS.mono _ _ _)
   | (with_reducible exact laws_heldIntS.mono _ _ _)
   | (with_reducible exact laws_markIntS.mono _ _ _)
   | (with_reducible exact spec_Uniform.mono _ _ _ _)
   | (with_reducible exact LeO.refl _)
   | (with_reducible exact LeO.none _)
   | (with_reducible refine LeO.ite ?_ ?_)
   | (with_reducible refine LeO.bind ?_ (fun _ => ?_))
   | exact impl_Uniform.mono _ _ _ _
   | exact laws_eqIntS.mono _ _ _
   | exact laws_heldIntS.mono _ _ _
   | exact laws_markIntS.mono _ _ _
   | exact spec_Uniform.mono _ _ _ _
   | exact LeO.none _
   | refine LeO.ite ?_ ?_
   | refine LeO.bind ?_ (fun _ => ?_)
set_option maxHeartbeats 8000000 in
set_option maxRecDepth 100000 in
theorem laws_FnExactUniform.calls (k : Nat) (a0 : ByteArray) (a1 : Int) (a2 : Int) (r : Bool) (w : World) (h : laws_FnExactUniform.f k a0 a1 a2 = some r) :
  Calls Try.prog 4 #[.string a0, .int .i64 a1, .int .i64 a2] w fun e w' => e = .returned (.bool r) ∧ Below w.heap.size w w' := by
 have HB := Aside0.mk (Below.refl w.heap.size w)
 have H : (if (a0.size : Int) > 1048576 then (some true) else ((spec_Uniform.f k a0 a1 a2).bind fun t282 => ((impl_Uniform.f k a0 a1 a2).bind fun t285 => ((laws_eqIntS.f k t285 t282).bind fun t288 => (if t288 = true then ((laws_markIntS.f k t285 1).bind fun bt289 => ((laws_heldIntS.f k bt289.2 1).bind fun t291 => (if t291 < 0 then (none) else (if t291 = bt289.1 then ((impl_Uniform.f k a0 a1 a2).bind fun t292 => ((laws_eqIntS.f k t292 t282).bind fun t295 => (if t295 = true then ((laws_heldIntS.f k bt289.2 1).bind fun t296 => (if t296 < 0 then (none) else (if t296 = bt289.1 then (some true) else (none)))) else (none)))) else (none))))) else (none)))))) = some r := h
 clear h
 by_cases c4 : (a0.size : Int) > 1048576
 ·rw [if_pos c4] at H
  have c4b0 : decide (1048576 < (a0.size : Int)) = true := decide_eq_true c4
  have c4b1 : decide (1048576 < a0.size) = true := decide_eq_true (by omega)
  clear c4
  obtain rfl := Option.some.inj H
  go_enter Try.func4, Try.ntmps4
  go_wp2
  go_ret
  exact ⟨by first | rfl | (simp [errW_none, errW_some] <;> rfl) | (simp [*, errW_none, errW_some] <;> rfl), hB_⟩
 ·rw [if_neg c4] at H
  have c4b0 : decide (1048576 < (a0.size : Int)) = false := decide_eq_false c4
  have c4b1 : decide (1048576 < a0.size) = false := decide_eq_false (by omega)
  clear c4
  replace H := Option.bind_eq_some_iff.mp H
  obtain ⟨t282, A50, H⟩ := H
  replace H : ((impl_Uniform.f k a0 a1 a2).bind fun t285 => ((laws_eqIntS.f k t285 t282).bind fun t288 => (if t288 = true then ((laws_markIntS.f k t285 1).bind fun bt289 => ((laws_heldIntS.f k bt289.2 1).bind fun t291 => (if t291 < 0 then (none) else (if t291 = bt289.1 then ((impl_Uniform.f k a0 a1 a2).bind fun t292 => ((laws_eqIntS.f k t292 t282).bind fun t295 => (if t295 = true then ((laws_heldIntS.f k bt289.2 1).bind fun t296 => (if t296 < 0 then (none) else (if t296 = bt289.1 then (some true) else (none)))) else (none)))) else (none))))) else (none)))) = some r := H
  have A5 := Aside0.mk A50
  clear A50
  replace H := Option.bind_eq_some_iff.mp H
  obtain ⟨t285, A60, H⟩ := H
  replace H : ((laws_eqIntS.f k t285 t282).bind fun t288 => (if t288 = true then ((laws_markIntS.f k t285 1).bind fun bt289 => ((laws_heldIntS.f k bt289.2 1).bind fun t291 => (if t291 < 0 then (none) else (if t291 = bt289.1 then ((impl_Uniform.f k a0 a1 a2).bind fun t292 => ((laws_eqIntS.f k t292 t282).bind fun t295 => (if t295 = true then ((laws_heldIntS.f k bt289.2 1).bind fun t296 => (if t296 < 0 then (none) else (if t296 = bt289.1 then (some true) else (none)))) else (none)))) else (none))))) else (none))) = some r := H
  have A6 := Aside0.mk A60
  clear A60
  replace H := Option.bind_eq_some_iff.mp H
  obtain ⟨t288, A70, H⟩ := H
  replace H : (if t288 = true then ((laws_markIntS.f k t285 1).bind fun bt289 => ((laws_heldIntS.f k bt289.2 1).bind fun t291 => (if t291 < 0 then (none) else (if t291 = bt289.1 then ((impl_Uniform.f k a0 a1 a2).bind fun t292 => ((laws_eqIntS.f k t292 t282).bind fun t295 => (if t295 = true then ((laws_heldIntS.f k bt289.2 1).bind fun t296 => (if t296 < 0 then (none) else (if t296 = bt289.1 then (some true) else (none)))) else (none)))) else (none))))) else (none)) = some r := H
  have A7 := Aside0.mk A70
  clear A70
  by_cases c8 : t288 = true
  ·subst c8
   have H1 : ((laws_markIntS.f k t285 1).bind fun bt289 => ((laws_heldIntS.f k bt289.2 1).bind fun t291 => (if t291 < 0 then (none) else (if t291 = bt289.1 then ((impl_Uniform.f k a0 a1 a2).bind fun t292 => ((laws_eqIntS.f k t292 t282).bind fun t295 => (if t295 = true then ((laws_heldIntS.f k bt289.2 1).bind fun t296 => (if t296 < 0 then (none) else (if t296 = bt289.1 then (some true) else (none)))) else (none)))) else (none))))) = some r := by rw [if_pos rfl] at H; exact H
   clear H
   have H := H1
   clear H1
   replace H := Option.bind_eq_some_iff.mp H
   obtain ⟨⟨t289, t290⟩, A90, H⟩ := H
   replace H : ((laws_heldIntS.f k t290 1).bind fun t291 => (if t291 < 0 then (none) else (if t291 = t289 then ((impl_Uniform.f k a0 a1 a2).bind fun t292 => ((laws_eqIntS.f k t292 t282).bind fun t295 => (if t295 = true then ((laws_heldIntS.f k t290 1).bind fun t296 => (if t296 < 0 then (none) else (if t296 = t289 then (some true) else (none)))) else (none)))) else (none)))) = some r := H
   have A9 := Aside0.mk A90
   clear A90
   replace H := Option.bind_eq_some_iff.mp H
   obtain ⟨t291, A100, H⟩ := H
   replace H : (if t291 < 0 then (none) else (if t291 = t289 then ((impl_Uniform.f k a0 a1 a2).bind fun t292 => ((laws_eqIntS.f k t292 t282).bind fun t295 => (if t295 = true then ((laws_heldIntS.f k t290 1).bind fun t296 => (if t296 < 0 then (none) else (if t296 = t289 then (some true) else (none)))) else (none)))) else (none))) = some r := H
   have A10 := Aside0.mk A100
   clear A100
   by_cases c11 : t291 < 0
   ·rw [if_pos c11] at H
    exact absurd H (by simp)
   ·rw [if_neg c11] at H
    have c11b0 : decide (t291 < 0) = false := decide_eq_false c11
    clear c11
    by_cases c12 : t291 = t289
    ·rw [if_pos c12] at H
     have c12b0 : (t291 == t289) = true := beq_iff_eq.mpr c12
     have c12b1 : (t291 != t289) = false := bne_eq_false_iff_eq.mpr c12
     clear c12
     replace H := Option.bind_eq_some_iff.mp H
     obtain ⟨t292, A130, H⟩ := H
     replace H : ((laws_eqIntS.f k t292 t282).bind fun t295 => (if t295 = true then ((laws_heldIntS.f k t290 1).bind fun t296 => (if t296 < 0 then (none) else (if t296 = t289 then (some true) else (none)))) else (none))) = some r := H
     have A13 := Aside0.mk A130
     clear A130
     have QA13 := Aside0.mk (Option.some.inj (A6.out.symm.trans A13.out))
     replace H := Option.bind_eq_some_iff.mp H
     obtain ⟨t295, A140, H⟩ := H
     replace H : (if t295 = true then ((laws_heldIntS.f k t290 1).bind fun t296 => (if t296 < 0 then (none) else (if t296 = t289 then (some true) else (none)))) else (none)) = some r := H
     have A14 := Aside0.mk A140
     clear A140
     by_cases c15 : t295 = true
     ·subst c15
      have H1 : ((laws_heldIntS.f k t290 1).bind fun t296 => (if t296 < 0 then (none) else (if t296 = t289 then (some true) else (none)))) = some r := by rw [if_pos rfl] at H; exact H
      clear H
      have H := H1
      clear H1
      replace H := Option.bind_eq_some_iff.mp H
      obtain ⟨t296, A160, H⟩ := H
      replace H : (if t296 < 0 then (none) else (if t296 = t289 then (some true) else (none))) = some r := H
      have A16 := Aside0.mk A160
      clear A160
      have QA16 := Aside0.mk (Option.some.inj (A10.out.symm.trans A16.out))
      by_cases c17 : t296 < 0
      ·rw [if_pos c17] at H
       exact absurd H (by simp)
      ·rw [if_neg c17] at H
       have c17b0 : decide (t296 < 0) = false := decide_eq_false c17
       clear c17
       by_cases c18 : t296 = t289
       ·rw [if_pos c18] at H
        have c18b0 : (t296 == t289) = true := beq_iff_eq.mpr c18
        have c18b1 : (t296 != t289) = false := bne_eq_false_iff_eq.mpr c18
        clear c18
        obtain rfl := Option.some.inj H
        go_enter Try.func4, Try.ntmps4
        go_wp2_with (first | ((with_reducible refine gate_callee (f := 13) rfl ?_); refine goesL_ (some 18) rfl rfl Try.func13 (by kernel_rfl) rfl #[.string a0, .int .i64 a1, .int .i64 a2] rfl aM_ ?_; (with_reducible refine (spec_Uniform.calls k a0 a1 a2 t282 _ A5.out).mono ?_); rintro e w19 ⟨v283, rfl, ho0, hb⟩; refine ⟨_, rfl, ?_⟩; have n0_ := Aside0.mk (Kd.R_lower ho0 (below_size (hB_))); have n1_ := Aside0.mk (below_step (hB_) hb); clear HB; have HO284 := n0_; have HB := n1_; clear n0_ n1_; (try clear hb); (try clear hb2); (try clear hk); (try clear hi); (try clear ho0)) | ((with_reducible refine gate_callee (f := 14) rfl ?_); refine goesL_ (some 22) rfl rfl Try.func14 (by kernel_rfl) rfl #[.string a0, .int .i64 a1, .int .i64 a2] rfl aM_ ?_; (with_reducible refine (impl_Uniform.calls k a0 a1 a2 t285 _ A6.out).mono ?_); rintro e w20 ⟨v286, rfl, ho0, hb⟩; refine ⟨_, rfl, ?_⟩; have n0_ := Aside0.mk (Kd.R_elder' (rR_ HO284.out) (Kd.R_base ho0) hb); have n1_ := Aside0.mk (Kd.R_lower (Kd.R_new' ho0 (Kd.R_lt (rR_ HO284.out))) (below_size (hB_))); have n2_ := Aside0.mk (below_step (hB_) hb); clear HO284; clear HB; have HO284 := n0_; have HO287 := n1_; have HB := n2_; clear n0_ n1_ n2_; (try clear hb); (try clear hb2); (try clear hk); (try clear hi); (try clear ho0); obtain ⟨Ao21, co21, eo21⟩ := Kd.R_slice HO287.out; subst eo21; obtain ⟨Ao22, co22, eo22⟩ := Kd.R_slice HO284.out; subst eo22) | ((with_reducible refine gate_callee (f := 10) rfl ?_); refine goesL_ (some 25) rfl rfl Try.func10 (by kernel_rfl) rfl #[.slice Ao21 t285.length co21, .slice Ao22 t282.length co22] rfl aM_ ?_; (with_reducible refine (laws_eqIntS.calls k _ _ t285 _ _ t282 true _ ?side1 ?side2 ?side3 ?side4 A7.out).mono ?_); (case side1 => exact cR_ (Kd.R_reads' HO287.out).2.2); (case side2 => exact (Kd.R_reads' HO287.out).2.1); (case side3 => exact cR_ (Kd.R_reads' HO284.out).2.2); (case side4 => exact (Kd.R_reads' HO284.out).2.1); rintro e w' ⟨rfl, ⟨nd, rfl⟩⟩; refine ⟨_, rfl, ?_⟩) | ((with_reducible refine gate_callee (f := 11) rfl ?_); refine goesL_ (some 29) rfl rfl Try.func11 (by kernel_rfl) rfl #[.slice Ao21 t285.length co21, .int .i64 1] rfl aM_ ?_; (with_reducible refine (laws_markIntS.calls k (fun k_ => some k_ = (.slice Ao21 t285.length co21 : Value).ownBlock) (.slice Ao21 t285.length co21) t285 1 t289 t290 w _ ?side1 ?side2 A9.out).mono ?_); (case side1 => repeat (first | (with_reducible first | exact HB.out | apply below_alloc | apply pw_below_drewN | apply below_drew1) | exact HB.out)); (case side2 => exact Kd.R_tight rfl HO287.out); rintro e w23 ⟨rfl, hy0, hb, hkp⟩; refine ⟨_, rfl, ?_⟩; have n0_ := Aside0.mk (Kd.R_mono (ok' := fun k_ => some k_ ≠ (.slice Ao21 t285.length co21 : Value).ownBlock) (Kd.R_keptB (HO284.out) hkp (fun k_ hk_ hs_ => (hk_.2) hs_)) (fun k_ hk_ => hk_.1.2)); have n1_ := Aside0.mk (Kd.R_reok rfl hy0 (fun k_ e_ => HO287.out.1 k_ e_)); have n2_ := Aside0.mk (hb); clear HO284; clear HO287; clear HB; have HO284 := n0_; have HO287 := n1_; have HB := n2_; clear n0_ n1_ n2_; (try clear hb); (try clear hkp); (try clear hy0)) | ((with_reducible refine gate_callee (f := 12) rfl ?_); refine goesL_ (some 32) rfl rfl Try.func12 (by kernel_rfl) rfl #[.slice Ao21 t290.length co21, .int .i64 1] rfl (by (try simp only [List.map_toArray, List.map_cons, List.map_nil]); first | done | (rw [show t290.length = t285.length from (Kd.R_reads' HO287.out).1.symm] <;> rfl) | rfl | (simp only [List.length_drop, List.length_take]; rfl)) ?_; (with_reducible refine (laws_heldIntS.calls k _ _ t290 1 t291 _ ?side1 ?side2 A10.out).mono ?_); (case side1 => exact cR_ (Kd.R_reads' HO287.out).2.2); (case side2 => rw [show t290.length = t285.length from (Kd.R_reads' HO287.out).1.symm]; exact (Kd.R_reads' HO287.out).2.1); rintro e w' ⟨rfl, ⟨nd, rfl⟩⟩; refine ⟨_, rfl, ?_⟩) | ((with_reducible refine gate_callee (f := 14) rfl ?_); refine goesL_ (some 41) rfl rfl Try.func14 (by kernel_rfl) rfl #[.string a0, .int .i64 a1, .int .i64 a2] rfl aM_ ?_; (with_reducible refine (impl_Uniform.calls k a0 a1 a2 t292 _ A13.out).mono ?_); rintro e w24 ⟨v293, rfl, ho0, hb⟩; refine ⟨_, rfl, ?_⟩; have n0_ := Aside0.mk (Kd.R_elder' (rR_ HO284.out) (Kd.R_base ho0) hb); have n1_ := Aside0.mk (Kd.R_elder' (rR_ HO287.out) (Kd.R_base ho0) hb); have n2_ := Aside0.mk (Kd.R_lower (Kd.R_new' (Kd.R_new' ho0 (Kd.R_lt (rR_ HO284.out))) (Kd.R_lt (rR_ HO287.out))) (below_size (hB_))); have n3_ := Aside0.mk (below_step (hB_) hb); clear HO284; clear HO287; clear HB; have HO284 := n0_; have HO287 := n1_; have HO294 := n2_; have HB := n3_; clear n0_ n1_ n2_ n3_; (try clear hb); (try clear hb2); (try clear hk); (try clear hi); (try clear ho0); obtain ⟨Ao25, co25, eo25⟩ := Kd.R_slice HO294.out; subst eo25) | ((with_reducible refine gate_callee (f := 10) rfl ?_); refine goesL_ (some 44) rfl rfl Try.func10 (by kernel_rfl) rfl #[.slice Ao25 t292.length co25, .slice Ao22 t282.length co22] rfl aM_ ?_; (with_reducible refine (laws_eqIntS.calls k _ _ t292 _ _ t282 true _ ?side1 ?side2 ?side3 ?side4 A14.out).mono ?_); (case side1 => exact cR_ (Kd.R_reads' HO294.out).2.2); (case side2 => exact (Kd.R_reads' HO294.out).2.1); (case side3 => exact cR_ (Kd.R_reads' HO284.out).2.2); (case side4 => exact (Kd.R_reads' HO284.out).2.1); rintro e w' ⟨rfl, ⟨nd, rfl⟩⟩; refine ⟨_, rfl, ?_⟩) | ((with_reducible refine gate_callee (f := 12) rfl ?_); refine goesL_ (some 48) rfl rfl Try.func12 (by kernel_rfl) rfl #[.slice Ao21 t290.length co21, .int .i64 1] rfl (by (try simp only [List.map_toArray, List.map_cons, List.map_nil]); first | done | (rw [show t290.length = t285.length from (Kd.R_reads' HO287.out).1.symm] <;> rfl) | rfl | (simp only [List.length_drop, List.length_take]; rfl)) ?_; (with_reducible refine (laws_heldIntS.calls k _ _ t290 1 t296 _ ?side1 ?side2 A16.out).mono ?_); (case side1 => exact cR_ (Kd.R_reads' HO287.out).2.2); (case side2 => rw [show t290.length = t285.length from (Kd.R_reads' HO287.out).1.symm]; exact (Kd.R_reads' HO287.out).2.1); rintro e w' ⟨rfl, ⟨nd, rfl⟩⟩; refine ⟨_, rfl, ?_⟩))
        go_ret
        exact ⟨by first | rfl | (simp [errW_none, errW_some] <;> rfl) | (simp [*, errW_none, errW_some] <;> rfl), hB_⟩
       ·rw [if_neg c18] at H
        exact absurd H (by simp)
     ·replace c15 := Bool.eq_false_iff.mpr c15
      subst c15
      have H1 : (none) = some r := by rw [if_neg (show ¬ (false = true) by decide)] at H; exact H
      clear H
      have H := H1
      clear H1
      exact absurd H (by simp)
    ·rw [if_neg c12] at H
     exact absurd H (by simp)
  ·replace c8 := Bool.eq_false_iff.mpr c8
   subst c8
   have H1 : (none) = some r := by rw [if_neg (show ¬ (false = true) by decide)] at H; exact H
   clear H
   have H := H1
   clear H1
   exact absurd H (by simp)

/-- THE ONE PURE STATEMENT of laws_FnExactUniform: yours. -/
def laws_FnExactUniform.Pure : Prop := ∀ (a0 : ByteArray) (a1 : Int) (a2 : Int), a0.size ≤ 140737488351232 → (Lit.int .i64 a1).wf = true → (Lit.int .i64 a2).wf = true → ∃ k, laws_FnExactUniform.f k a0 a1 a2 = some true
theorem laws_FnExactUniform.walk (P : laws_FnExactUniform.Pure) (a0 : ByteArray) (a1 : Int) (a2 : Int) (w : World) (w0 : a0.size ≤ 140737488351232) (w1 : (Lit.int .i64 a1).wf = true) (w2 : (Lit.int .i64 a2).wf = true) :
  Calls Try.prog 4 #[.string a0, .int .i64 a1, .int .i64 a2] w fun e w' => e = .returned (.bool true) ∧ Below w.heap.size w w' := by
 obtain ⟨k, h⟩ := P a0 a1 a2 w0 w1 w2
 refine (laws_FnExactUniform.calls k a0 a1 a2 true w h).mono ?_
 rintro e w' ⟨rfl, hd⟩
 exact ⟨rfl, hd⟩

end Go.Proofs.Ytnckhligcdieaaa.P
