-- printed texts of this session, regrouped
import Derived.Test.YtnckhligcdieaaaMW6
import Derived.Test.YtnckhligcdieaaaPx0
import Derived.Test.YtnckhligcdieaaaPx4
import Derived.Test.YtnckhligcdieaaaPx17
import Derived.Test.YtnckhligcdieaaaPx20
namespace Go.Proofs.Ytnckhligcdieaaa.P
open Go.RowKit Go.Proofs.YtnckhligcdieaaaW.PrintWords Go.Proofs.YtnckhligcdieaaaW.PrintLast Go.Proofs.YtnckhligcdieaaaW.PrintMore
attribute [local go_sem] max2_int min2_int max_two min_two max_three min_three max_four min_four   -- for this text's walks alone
set_option linter.unusedVariables false
set_option linter.unusedSimpArgs false

/-! ### laws_FnExactSmall: function 3 -/
def laws_FnExactSmall.f (k : Nat) (a0 : ByteArray) (a1 : Int) : Option (Bool) := if (a0.size : Int) > 1048576 then (some true) else ((spec_Small.f k a0 a1).bind fun t226 => ((impl_Small.f k a0 a1).bind fun t229 => ((laws_eqIntS.f k t229 t226).bind fun t232 => (if t232 = true then ((laws_markIntS.f k t229 1).bind fun bt233 => ((laws_heldIntS.f k bt233.2 1).bind fun t235 => (if t235 < 0 then (none) else (if t235 = bt233.1 then ((impl_Small.f k a0 a1).bind fun t236 => ((laws_eqIntS.f k t236 t226).bind fun t239 => (if t239 = true then ((laws_heldIntS.f k bt233.2 1).bind fun t240 => (if t240 < 0 then (none) else (if t240 = bt233.1 then (some true) else (none)))) else (none)))) else (none))))) else (none)))))
theorem laws_FnExactSmall.mono : ∀ a0 a1 k, LeO (laws_FnExactSmall.f k a0 a1) (laws_FnExactSmall.f (k + 1) a0 a1) := by
 intro a0 a1 k
 unfold laws_FnExactSmall.f
 repeat' first
   | (with_reducible exact impl_Small.mono _ _ _)
   | (with_reducible exact laws_eqIntS.mono _ _ _)
   | (with_reducible exact laws_heldIntS.mono _ _ _)
   | (with_reducible exact laws_markIntS.mono _ _ _)
   | (with_reducible exact spec_Small.mono _ _ _)
   | (with_reducible exact LeO.refl _)
   | (with_reducible exact LeO.none _)
   | (with_reducible refine LeO.ite ?_ ?_)
   | (with_reducible refine LeO.bind ?_ (fun _ => ?_))
   | exact impl_Small.mono _ _ _
   | exact laws_eqIntS.mono _ _ _
   | exact laws_heldIntS.mono _ _ _
   | exact laws_markIntS.mono _ _ _
   | exact spec_Small.mono _ _ _
   | exact LeO.none _
   | refine LeO.ite ?_ ?_
   | refine LeO.bind ?_ (fun _ => ?_)
set_option maxHeartbeats 8000000 in
set_option maxRecDepth 100000 in
theorem laws_FnExactSmall.calls (k : Nat) (a0 : ByteArray) (a1 : Int) (r : Bool) (w : World) (h : laws_FnExactSmall.f k a0 a1 = some r) :
  Calls Try.prog 3 #[.string a0, .int .i64 a1] w fun e w' => e = .returned (.bool r) ∧ Below w.heap.size w w' := by
 have HB := Aside0.mk (Below.refl w.heap.size w)
 have H : (if (a0.size : Int) > 1048576 then (some true) else ((spec_Small.f k a0 a1).bind fun t226 => ((impl_Small.f k a0 a1).bind fun t229 => ((laws_eqIntS.f k t229 t226).bind fun t232 => (if t232 = true then ((laws_markIntS.f k t229 1).bind fun bt233 => ((laws_heldIntS.f k bt233.2 1).bind fun t235 => (if t235 < 0 then (none) else (if t235 = bt233.1 then ((impl_Small.f k a0 a1).bind fun t236 => ((laws_eqIntS.f k t236 t226).bind fun t239 => (if t239 = true then ((laws_heldIntS.f k bt233.2 1).bind fun t240 => (if t240 < 0 then (none) else (if t240 = bt233.1 then (some true) else (none)))) else (none)))) else (none))))) else (none)))))) = some r := h
 clear h
 by_cases c3 : (a0.size : Int) > 1048576
 ·rw [if_pos c3] at H
  have c3b0 : decide (1048576 < (a0.size : Int)) = true := decide_eq_true c3
  have c3b1 : decide (1048576 < a0.size) = true := decide_eq_true (by omega)
  clear c3
  obtain rfl := Option.some.inj H
  go_enter Try.func3, Try.ntmps3
  go_wp2
  go_ret
  exact ⟨by first | rfl | (simp [errW_none, errW_some] <;> rfl) | (simp [*, errW_none, errW_some] <;> rfl), hB_⟩
 ·rw [if_neg c3] at H
  have c3b0 : decide (1048576 < (a0.size : Int)) = false := decide_eq_false c3
  have c3b1 : decide (1048576 < a0.size) = false := decide_eq_false (by omega)
  clear c3
  replace H := Option.bind_eq_some_iff.mp H
  obtain ⟨t226, A40, H⟩ := H
  replace H : ((impl_Small.f k a0 a1).bind fun t229 => ((laws_eqIntS.f k t229 t226).bind fun t232 => (if t232 = true then ((laws_markIntS.f k t229 1).bind fun bt233 => ((laws_heldIntS.f k bt233.2 1).bind fun t235 => (if t235 < 0 then (none) else (if t235 = bt233.1 then ((impl_Small.f k a0 a1).bind fun t236 => ((laws_eqIntS.f k t236 t226).bind fun t239 => (if t239 = true then ((laws_heldIntS.f k bt233.2 1).bind fun t240 => (if t240 < 0 then (none) else (if t240 = bt233.1 then (some true) else (none)))) else (none)))) else (none))))) else (none)))) = some r := H
  have A4 := Aside0.mk A40
  clear A40
  replace H := Option.bind_eq_some_iff.mp H
  obtain ⟨t229, A50, H⟩ := H
  replace H : ((laws_eqIntS.f k t229 t226).bind fun t232 => (if t232 = true then ((laws_markIntS.f k t229 1).bind fun bt233 => ((laws_heldIntS.f k bt233.2 1).bind fun t235 => (if t235 < 0 then (none) else (if t235 = bt233.1 then ((impl_Small.f k a0 a1).bind fun t236 => ((laws_eqIntS.f k t236 t226).bind fun t239 => (if t239 = true then ((laws_heldIntS.f k bt233.2 1).bind fun t240 => (if t240 < 0 then (none) else (if t240 = bt233.1 then (some true) else (none)))) else (none)))) else (none))))) else (none))) = some r := H
  have A5 := Aside0.mk A50
  clear A50
  replace H := Option.bind_eq_some_iff.mp H
  obtain ⟨t232, A60, H⟩ := H
  replace H : (if t232 = true then ((laws_markIntS.f k t229 1).bind fun bt233 => ((laws_heldIntS.f k bt233.2 1).bind fun t235 => (if t235 < 0 then (none) else (if t235 = bt233.1 then ((impl_Small.f k a0 a1).bind fun t236 => ((laws_eqIntS.f k t236 t226).bind fun t239 => (if t239 = true then ((laws_heldIntS.f k bt233.2 1).bind fun t240 => (if t240 < 0 then (none) else (if t240 = bt233.1 then (some true) else (none)))) else (none)))) else (none))))) else (none)) = some r := H
  have A6 := Aside0.mk A60
  clear A60
  by_cases c7 : t232 = true
  ·subst c7
   have H1 : ((laws_markIntS.f k t229 1).bind fun bt233 => ((laws_heldIntS.f k bt233.2 1).bind fun t235 => (if t235 < 0 then (none) else (if t235 = bt233.1 then ((impl_Small.f k a0 a1).bind fun t236 => ((laws_eqIntS.f k t236 t226).bind fun t239 => (if t239 = true then ((laws_heldIntS.f k bt233.2 1).bind fun t240 => (if t240 < 0 then (none) else (if t240 = bt233.1 then (some true) else (none)))) else (none)))) else (none))))) = some r := by rw [if_pos rfl] at H; exact H
   clear H
   have H := H1
   clear H1
   replace H := Option.bind_eq_some_iff.mp H
   obtain ⟨⟨t233, t234⟩, A80, H⟩ := H
   replace H : ((laws_heldIntS.f k t234 1).bind fun t235 => (if t235 < 0 then (none) else (if t235 = t233 then ((impl_Small.f k a0 a1).bind fun t236 => ((laws_eqIntS.f k t236 t226).bind fun t239 => (if t239 = true then ((laws_heldIntS.f k t234 1).bind fun t240 => (if t240 < 0 then (none) else (if t240 = t233 then (some true) else (none)))) else (none)))) else (none)))) = some r := H
   have A8 := Aside0.mk A80
   clear A80
   replace H := Option.bind_eq_some_iff.mp H
   obtain ⟨t235, A90, H⟩ := H
   replace H : (if t235 < 0 then (none) else (if t235 = t233 then ((impl_Small.f k a0 a1).bind fun t236 => ((laws_eqIntS.f k t236 t226).bind fun t239 => (if t239 = true then ((laws_heldIntS.f k t234 1).bind fun t240 => (if t240 < 0 then (none) else (if t240 = t233 then (some true) else (none)))) else (none)))) else (none))) = some r := H
   have A9 := Aside0.mk A90
   clear A90
   by_cases c10 : t235 < 0
   ·rw [if_pos c10] at H
    exact absurd H (by simp)
   ·rw [if_neg c10] at H
    have c10b0 : decide (t235 < 0) = false := decide_eq_false c10
    clear c10
    by_cases c11 : t235 = t233
    ·rw [if_pos c11] at H
     have c11b0 : (t235 == t233) = true := beq_iff_eq.mpr c11
     have c11b1 : (t235 != t233) = false := bne_eq_false_iff_eq.mpr c11
     clear c11
     replace H := Option.bind_eq_some_iff.mp H
     obtain ⟨t236, A120, H⟩ := H
     replace H : ((laws_eqIntS.f k t236 t226).bind fun t239 => (if t239 = true then ((laws_heldIntS.f k t234 1).bind fun t240 => (if t240 < 0 then (none) else (if t240 = t233 then (some true) else (none)))) else (none))) = some r := H
     have A12 := Aside0.mk A120
     clear A120
     have QA12 := Aside0.mk (Option.some.inj (A5.out.symm.trans A12.out))
     replace H := Option.bind_eq_some_iff.mp H
     obtain ⟨t239, A130, H⟩ := H
     replace H : (if t239 = true then ((laws_heldIntS.f k t234 1).bind fun t240 => (if t240 < 0 then (none) else (if t240 = t233 then (some true) else (none)))) else (none)) = some r := H
     have A13 := Aside0.mk A130
     clear A130
     by_cases c14 : t239 = true
     ·subst c14
      have H1 : ((laws_heldIntS.f k t234 1).bind fun t240 => (if t240 < 0 then (none) else (if t240 = t233 then (some true) else (none)))) = some r := by rw [if_pos rfl] at H; exact H
      clear H
      have H := H1
      clear H1
      replace H := Option.bind_eq_some_iff.mp H
      obtain ⟨t240, A150, H⟩ := H
      replace H : (if t240 < 0 then (none) else (if t240 = t233 then (some true) else (none))) = some r := H
      have A15 := Aside0.mk A150
      clear A150
      have QA15 := Aside0.mk (Option.some.inj (A9.out.symm.trans A15.out))
      by_cases c16 : t240 < 0
      ·rw [if_pos c16] at H
       exact absurd H (by simp)
      ·rw [if_neg c16] at H
       have c16b0 : decide (t240 < 0) = false := decide_eq_false c16
       clear c16
       by_cases c17 : t240 = t233
       ·rw [if_pos c17] at H
        have c17b0 : (t240 == t233) = true := beq_iff_eq.mpr c17
        have c17b1 : (t240 != t233) = false := bne_eq_false_iff_eq.mpr c17
        clear c17
        obtain rfl := Option.some.inj H
        go_enter Try.func3, Try.ntmps3
        go_wp2_with (first | ((with_reducible refine gate_callee (f := 8) rfl ?_); refine goesL_ (some 15) rfl rfl Try.func8 (by kernel_rfl) rfl #[.string a0, .int .i64 a1] rfl aM_ ?_; (with_reducible refine (spec_Small.calls k a0 a1 t226 _ A4.out).mono ?_); rintro e w18 ⟨v227, rfl, ho0, hb⟩; refine ⟨_, rfl, ?_⟩; have n0_ := Aside0.mk (Kd.R_lower ho0 (below_size (hB_))); have n1_ := Aside0.mk (below_step (hB_) hb); clear HB; have HO228 := n0_; have HB := n1_; clear n0_ n1_; (try clear hb); (try clear hb2); (try clear hk); (try clear hi); (try clear ho0)) | ((with_reducible refine gate_callee (f := 9) rfl ?_); refine goesL_ (some 18) rfl rfl Try.func9 (by kernel_rfl) rfl #[.string a0, .int .i64 a1] rfl aM_ ?_; (with_reducible refine (impl_Small.calls k a0 a1 t229 _ A5.out).mono ?_); rintro e w19 ⟨v230, rfl, ho0, hb⟩; refine ⟨_, rfl, ?_⟩; have n0_ := Aside0.mk (Kd.R_elder' (rR_ HO228.out) (Kd.R_base ho0) hb); have n1_ := Aside0.mk (Kd.R_lower (Kd.R_new' ho0 (Kd.R_lt (rR_ HO228.out))) (below_size (hB_))); have n2_ := Aside0.mk (below_step (hB_) hb); clear HO228; clear HB; have HO228 := n0_; have HO231 := n1_; have HB := n2_; clear n0_ n1_ n2_; (try clear hb); (try clear hb2); (try clear hk); (try clear hi); (try clear ho0); obtain ⟨Ao20, co20, eo20⟩ := Kd.R_slice HO231.out; subst eo20; obtain ⟨Ao21, co21, eo21⟩ := Kd.R_slice HO228.out; subst eo21) | ((with_reducible refine gate_callee (f := 10) rfl ?_); refine goesL_ (some 21) rfl rfl Try.func10 (by kernel_rfl) rfl #[.slice Ao20 t229.length co20, .slice Ao21 t226.length co21] rfl aM_ ?_; (with_reducible refine (laws_eqIntS.calls k _ _ t229 _ _ t226 true _ ?side1 ?side2 ?side3 ?side4 A6.out).mono ?_); (case side1 => exact cR_ (Kd.R_reads' HO231.out).2.2); (case side2 => exact (Kd.R_reads' HO231.out).2.1); (case side3 => exact cR_ (Kd.R_reads' HO228.out).2.2); (case side4 => exact (Kd.R_reads' HO228.out).2.1); rintro e w' ⟨rfl, ⟨nd, rfl⟩⟩; refine ⟨_, rfl, ?_⟩) | ((with_reducible refine gate_callee (f := 11) rfl ?_); refine goesL_ (some 25) rfl rfl Try.func11 (by kernel_rfl) rfl #[.slice Ao20 t229.length co20, .int .i64 1] rfl aM_ ?_; (with_reducible refine (laws_markIntS.calls k (fun k_ => some k_ = (.slice Ao20 t229.length co20 : Value).ownBlock) (.slice Ao20 t229.length co20) t229 1 t233 t234 w _ ?side1 ?side2 A8.out).mono ?_); (case side1 => repeat (first | (with_reducible first | exact HB.out | apply below_alloc | apply pw_below_drewN | apply below_drew1) | exact HB.out)); (case side2 => exact Kd.R_tight rfl HO231.out); rintro e w22 ⟨rfl, hy0, hb, hkp⟩; refine ⟨_, rfl, ?_⟩; have n0_ := Aside0.mk (Kd.R_mono (ok' := fun k_ => some k_ ≠ (.slice Ao20 t229.length co20 : Value).ownBlock) (Kd.R_keptB (HO228.out) hkp (fun k_ hk_ hs_ => (hk_.2) hs_)) (fun k_ hk_ => hk_.1.2)); have n1_ := Aside0.mk (Kd.R_reok rfl hy0 (fun k_ e_ => HO231.out.1 k_ e_)); have n2_ := Aside0.mk (hb); clear HO228; clear HO231; clear HB; have HO228 := n0_; have HO231 := n1_; have HB := n2_; clear n0_ n1_ n2_; (try clear hb); (try clear hkp); (try clear hy0)) | ((with_reducible refine gate_callee (f := 12) rfl ?_); refine goesL_ (some 28) rfl rfl Try.func12 (by kernel_rfl) rfl #[.slice Ao20 t234.length co20, .int .i64 1] rfl (by (try simp only [List.map_toArray, List.map_cons, List.map_nil]); first | done | (rw [show t234.length = t229.length from (Kd.R_reads' HO231.out).1.symm] <;> rfl) | rfl | (simp only [List.length_drop, List.length_take]; rfl)) ?_; (with_reducible refine (laws_heldIntS.calls k _ _ t234 1 t235 _ ?side1 ?side2 A9.out).mono ?_); (case side1 => exact cR_ (Kd.R_reads' HO231.out).2.2); (case side2 => rw [show t234.length = t229.length from (Kd.R_reads' HO231.out).1.symm]; exact (Kd.R_reads' HO231.out).2.1); rintro e w' ⟨rfl, ⟨nd, rfl⟩⟩; refine ⟨_, rfl, ?_⟩) | ((with_reducible refine gate_callee (f := 9) rfl ?_); refine goesL_ (some 36) rfl rfl Try.func9 (by kernel_rfl) rfl #[.string a0, .int .i64 a1] rfl aM_ ?_; (with_reducible refine (impl_Small.calls k a0 a1 t236 _ A12.out).mono ?_); rintro e w23 ⟨v237, rfl, ho0, hb⟩; refine ⟨_, rfl, ?_⟩; have n0_ := Aside0.mk (Kd.R_elder' (rR_ HO228.out) (Kd.R_base ho0) hb); have n1_ := Aside0.mk (Kd.R_elder' (rR_ HO231.out) (Kd.R_base ho0) hb); have n2_ := Aside0.mk (Kd.R_lower (Kd.R_new' (Kd.R_new' ho0 (Kd.R_lt (rR_ HO228.out))) (Kd.R_lt (rR_ HO231.out))) (below_size (hB_))); have n3_ := Aside0.mk (below_step (hB_) hb); clear HO228; clear HO231; clear HB; have HO228 := n0_; have HO231 := n1_; have HO238 := n2_; have HB := n3_; clear n0_ n1_ n2_ n3_; (try clear hb); (try clear hb2); (try clear hk); (try clear hi); (try clear ho0); obtain ⟨Ao24, co24, eo24⟩ := Kd.R_slice HO238.out; subst eo24) | ((with_reducible refine gate_callee (f := 10) rfl ?_); refine goesL_ (some 39) rfl rfl Try.func10 (by kernel_rfl) rfl #[.slice Ao24 t236.length co24, .slice Ao21 t226.length co21] rfl aM_ ?_; (with_reducible refine (laws_eqIntS.calls k _ _ t236 _ _ t226 true _ ?side1 ?side2 ?side3 ?side4 A13.out).mono ?_); (case side1 => exact cR_ (Kd.R_reads' HO238.out).2.2); (case side2 => exact (Kd.R_reads' HO238.out).2.1); (case side3 => exact cR_ (Kd.R_reads' HO228.out).2.2); (case side4 => exact (Kd.R_reads' HO228.out).2.1); rintro e w' ⟨rfl, ⟨nd, rfl⟩⟩; refine ⟨_, rfl, ?_⟩) | ((with_reducible refine gate_callee (f := 12) rfl ?_); refine goesL_ (some 43) rfl rfl Try.func12 (by kernel_rfl) rfl #[.slice Ao20 t234.length co20, .int .i64 1] rfl (by (try simp only [List.map_toArray, List.map_cons, List.map_nil]); first | done | (rw [show t234.length = t229.length from (Kd.R_reads' HO231.out).1.symm] <;> rfl) | rfl | (simp only [List.length_drop, List.length_take]; rfl)) ?_; (with_reducible refine (laws_heldIntS.calls k _ _ t234 1 t240 _ ?side1 ?side2 A15.out).mono ?_); (case side1 => exact cR_ (Kd.R_reads' HO231.out).2.2); (case side2 => rw [show t234.length = t229.length from (Kd.R_reads' HO231.out).1.symm]; exact (Kd.R_reads' HO231.out).2.1); rintro e w' ⟨rfl, ⟨nd, rfl⟩⟩; refine ⟨_, rfl, ?_⟩))
        go_ret
        exact ⟨by first | rfl | (simp [errW_none, errW_some] <;> rfl) | (simp [*, errW_none, errW_some] <;> rfl), hB_⟩
       ·rw [if_neg c17] at H
        exact absurd H (by simp)
     ·replace c14 := Bool.eq_false_iff.mpr c14
      subst c14
      have H1 : (none) = some r := by rw [if_neg (show ¬ (false = true) by decide)] at H; exact H
      clear H
      have H := H1
      clear H1
      exact absurd H (by simp)
    ·rw [if_neg c11] at H
     exact absurd H (by simp)
  ·replace c7 := Bool.eq_false_iff.mpr c7
   subst c7
   have H1 : (none) = some r := by rw [if_neg (show ¬ (false = true) by decide)] at H; exact H
   clear H
   have H := H1
   clear H1
   exact absurd H (by simp)

/-- THE ONE PURE STATEMENT of laws_FnExactSmall: yours. -/
def laws_FnExactSmall.Pure : Prop := ∀ (a0 : ByteArray) (a1 : Int), a0.size ≤ 140737488351232 → (Lit.int .i64 a1).wf = true → ∃ k, laws_FnExactSmall.f k a0 a1 = some true
theorem laws_FnExactSmall.walk (P : laws_FnExactSmall.Pure) (a0 : ByteArray) (a1 : Int) (w : World) (w0 : a0.size ≤ 140737488351232) (w1 : (Lit.int .i64 a1).wf = true) :
  Calls Try.prog 3 #[.string a0, .int .i64 a1] w fun e w' => e = .returned (.bool true) ∧ Below w.heap.size w w' := by
 obtain ⟨k, h⟩ := P a0 a1 w0 w1
 refine (laws_FnExactSmall.calls k a0 a1 true w h).mono ?_
 rintro e w' ⟨rfl, hd⟩
 exact ⟨rfl, hd⟩

end Go.Proofs.Ytnckhligcdieaaa.P
