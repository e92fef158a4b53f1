-- printed texts of this session, regrouped
import Derived.Test.YtjcmafoepabpkaaDoorPx0
import Derived.Test.YtjcmafoepabpkaaDoorPx13
import Derived.Test.YtjcmafoepabpkaaDoorPx16
import Derived.Test.YtjcmafoepabpkaaDoorPx40
import Derived.Test.YtjcmafoepabpkaaDoorPx42
namespace Go.Proofs.YtjcmafoepabpkaaDoor.P
open Go.RowKit Go.Proofs.YtjcmafoepabpkaaDoorW.PrintWords Go.Proofs.YtjcmafoepabpkaaDoorW.PrintLast Go.Proofs.YtjcmafoepabpkaaDoorW.PrintMore
attribute [local go_sem] max2_int min2_int max_two min_two max_three min_three max_four min_four   -- for this text's walks alone
set_option linter.unusedVariables false
set_option linter.unusedSimpArgs false

/-! ### laws_FnExactSignAt: function 8 -/
mutual
def laws_FnExactSignAt.j0 : Nat → ByteArray → Int → ByteArray → Bool → Bool → Int → List ByteArray → List ByteArray → Int → List ByteArray → List ByteArray → Option (Bool)
 | 0, _, _, _, _, _, _, _, _, _, _, _ => none
 | k + 1, x0, x1, x2, x8, x43, x721000, x721001, x721002, x730000, x730001, x730002 => if x43 = true then (none) else ((laws_markSig.f k x730000 x730001 x730002 1).bind fun bt731 => ((laws_heldSig.f k x730000 bt731.2.1 bt731.2.2 1).bind fun t734 => (if t734 < 0 then (none) else (if t734 = bt731.1 then ((impl_SignAt.f k x0 x1 x2).bind fun bt735 => ((laws_eqSig.f k bt735.1 bt735.2.1 bt735.2.2.1 x721000 x721001 x721002).bind fun t744 => (if t744 = true then (laws_FnExactSignAt.j1 k bt731.1 (bt735.2.2.2 != x8) x730000 bt731.2.1 bt731.2.2) else (laws_FnExactSignAt.j1 k bt731.1 true x730000 bt731.2.1 bt731.2.2)))) else (none)))))
def laws_FnExactSignAt.j1 : Nat → Int → Bool → Int → List ByteArray → List ByteArray → Option (Bool)
 | 0, _, _, _, _, _ => none
 | k + 1, x11, x70, x730000, x730001, x730002 => if x70 = true then (none) else ((laws_heldSig.f k x730000 x730001 x730002 1).bind fun t745 => (if t745 < 0 then (none) else (if t745 = x11 then (some true) else (none))))
end
def laws_FnExactSignAt.f (k : Nat) (a0 : ByteArray) (a1 : Int) (a2 : ByteArray) : Option (Bool) := if (a0.size : Int) > 1048576 then (some true) else (if (a2.size : Int) > 1048576 then (some true) else ((spec_SignAt.f k a0 a1 a2).bind fun bt712 => ((impl_SignAt.f k a0 a1 a2).bind fun bt721 => ((laws_eqSig.f k bt721.1 bt721.2.1 bt721.2.2.1 bt712.1 bt712.2.1 bt712.2.2.1).bind fun t730 => (if t730 = true then (laws_FnExactSignAt.j0 k a0 a1 a2 bt712.2.2.2 (bt721.2.2.2 != bt712.2.2.2) bt712.1 bt712.2.1 bt712.2.2.1 bt721.1 bt721.2.1 bt721.2.2.1) else (laws_FnExactSignAt.j0 k a0 a1 a2 bt712.2.2.2 true bt712.1 bt712.2.1 bt712.2.2.1 bt721.1 bt721.2.1 bt721.2.2.1))))))
theorem laws_FnExactSignAt.mono_l : ∀ k, (∀ y0 y1 y2 y3 y4 y5 y6 y7 y8 y9 y10, LeO (laws_FnExactSignAt.j0 k y0 y1 y2 y3 y4 y5 y6 y7 y8 y9 y10) (laws_FnExactSignAt.j0 (k + 1) y0 y1 y2 y3 y4 y5 y6 y7 y8 y9 y10)) ∧ (∀ y0 y1 y2 y3 y4, LeO (laws_FnExactSignAt.j1 k y0 y1 y2 y3 y4) (laws_FnExactSignAt.j1 (k + 1) y0 y1 y2 y3 y4))
 | 0 => ⟨fun _ _ _ _ _ _ _ _ _ _ _ r h => by simp [laws_FnExactSignAt.j0] at h, fun _ _ _ _ _ r h => by simp [laws_FnExactSignAt.j1] at h⟩
 | k + 1 => by
  obtain ⟨ih0, ih1⟩ := laws_FnExactSignAt.mono_l k
  refine ⟨?_, ?_⟩
  ·intro y0 y1 y2 y3 y4 y5 y6 y7 y8 y9 y10
   unfold laws_FnExactSignAt.j0
   repeat' first
   | (with_reducible exact ih0 _ _ _ _ _ _ _ _ _ _ _)
   | (with_reducible exact ih1 _ _ _ _ _)
   | (with_reducible exact impl_SignAt.mono _ _ _ _)
   | (with_reducible exact laws_eqSig.mono _ _ _ _ _ _ _)
   | (with_reducible exact laws_heldSig.mono _ _ _ _ _)
   | (with_reducible exact laws_markSig.mono _ _ _ _ _)
   | (with_reducible exact spec_SignAt.mono _ _ _ _)
   | (with_reducible exact LeO.refl _)
   | (with_reducible exact LeO.none _)
   | (with_reducible refine LeO.ite ?_ ?_)
   | (with_reducible refine LeO.bind ?_ (fun _ => ?_))
   | exact ih0 _ _ _ _ _ _ _ _ _ _ _
   | exact ih1 _ _ _ _ _
   | exact impl_SignAt.mono _ _ _ _
   | exact laws_eqSig.mono _ _ _ _ _ _ _
   | exact laws_heldSig.mono _ _ _ _ _
   | exact laws_markSig.mono _ _ _ _ _
   | exact spec_SignAt.mono _ _ _ _
   | exact LeO.none _
   | refine LeO.ite ?_ ?_
   | refine LeO.bind ?_ (fun _ => ?_)
  ·intro y0 y1 y2 y3 y4
   unfold laws_FnExactSignAt.j1
   repeat' first
   | (with_reducible exact ih0 _ _ _ _ _ _ _ _ _ _ _)
   | (with_reducible exact ih1 _ _ _ _ _)
   | (with_reducible exact impl_SignAt.mono _ _ _ _)
   | (with_reducible exact laws_eqSig.mono _ _ _ _ _ _ _)
   | (with_reducible exact laws_heldSig.mono _ _ _ _ _)
   | (with_reducible exact laws_markSig.mono _ _ _ _ _)
   | (with_reducible exact spec_SignAt.mono _ _ _ _)
   | (with_reducible exact LeO.refl _)
   | (with_reducible exact LeO.none _)
   | (with_reducible refine LeO.ite ?_ ?_)
   | (with_reducible refine LeO.bind ?_ (fun _ => ?_))
   | exact ih0 _ _ _ _ _ _ _ _ _ _ _
   | exact ih1 _ _ _ _ _
   | exact impl_SignAt.mono _ _ _ _
   | exact laws_eqSig.mono _ _ _ _ _ _ _
   | exact laws_heldSig.mono _ _ _ _ _
   | exact laws_markSig.mono _ _ _ _ _
   | exact spec_SignAt.mono _ _ _ _
   | exact LeO.none _
   | refine LeO.ite ?_ ?_
   | refine LeO.bind ?_ (fun _ => ?_)
theorem laws_FnExactSignAt.mono : ∀ a0 a1 a2 k, LeO (laws_FnExactSignAt.f k a0 a1 a2) (laws_FnExactSignAt.f (k + 1) a0 a1 a2) := by
 intro a0 a1 a2 k
 obtain ⟨ih0, ih1⟩ := laws_FnExactSignAt.mono_l k
 unfold laws_FnExactSignAt.f
 repeat' first
   | (with_reducible exact ih0 _ _ _ _ _ _ _ _ _ _ _)
   | (with_reducible exact ih1 _ _ _ _ _)
   | (with_reducible exact impl_SignAt.mono _ _ _ _)
   | (with_reducible exact laws_eqSig.mono _ _ _ _ _ _ _)
   | (with_reducible exact laws_heldSig.mono _ _ _ _ _)
   | (with_reducible exact laws_markSig.mono _ _ _ _ _)
   | (with_reducible exact spec_SignAt.mono _ _ _ _)
   | (with_reducible exact LeO.refl _)
   | (with_reducible exact LeO.none _)
   | (with_reducible refine LeO.ite ?_ ?_)
   | (with_reducible refine LeO.bind ?_ (fun _ => ?_))
   | exact ih0 _ _ _ _ _ _ _ _ _ _ _
   | exact ih1 _ _ _ _ _
   | exact impl_SignAt.mono _ _ _ _
   | exact laws_eqSig.mono _ _ _ _ _ _ _
   | exact laws_heldSig.mono _ _ _ _ _
   | exact laws_markSig.mono _ _ _ _ _
   | exact spec_SignAt.mono _ _ _ _
   | exact LeO.none _
   | refine LeO.ite ?_ ?_
   | refine LeO.bind ?_ (fun _ => ?_)
set_option maxHeartbeats 8000000 in
set_option maxRecDepth 100000 in
theorem laws_FnExactSignAt.calls (k : Nat) (a0 : ByteArray) (a1 : Int) (a2 : ByteArray) (r : Bool) (w : World) (h : laws_FnExactSignAt.f k a0 a1 a2 = some r) (hLD : Laid w) :
  Calls Tryd.prog 8 #[.string a0, .int .i64 a1, .string a2] w fun e w' => e = .returned (.bool r) ∧ Below w.heap.size w w' := by
 have HLD := Aside0.mk hLD
 clear hLD
 have hu42 := Tryd.underlying42
 have HB := Aside0.mk (Below.refl w.heap.size w)
 have H : (if (a0.size : Int) > 1048576 then (some true) else (if (a2.size : Int) > 1048576 then (some true) else ((spec_SignAt.f k a0 a1 a2).bind fun bt712 => ((impl_SignAt.f k a0 a1 a2).bind fun bt721 => ((laws_eqSig.f k bt721.1 bt721.2.1 bt721.2.2.1 bt712.1 bt712.2.1 bt712.2.2.1).bind fun t730 => (if t730 = true then (laws_FnExactSignAt.j0 k a0 a1 a2 bt712.2.2.2 (bt721.2.2.2 != bt712.2.2.2) bt712.1 bt712.2.1 bt712.2.2.1 bt721.1 bt721.2.1 bt721.2.2.1) else (laws_FnExactSignAt.j0 k a0 a1 a2 bt712.2.2.2 true bt712.1 bt712.2.1 bt712.2.2.1 bt721.1 bt721.2.1 bt721.2.2.1))))))) = some r := h
 clear h
 by_cases c4 : (a0.size : Int) > 1048576
 ·rw [if_pos c4] at H
  have c4b0 : decide (1048576 < (a0.size : Int)) = true := decide_eq_true c4
  have c4b1 : decide (1048576 < a0.size) = true := decide_eq_true (by omega)
  clear c4
  obtain rfl := Option.some.inj H
  go_enter Tryd.func8, Tryd.ntmps8
  go_wp2
  go_ret
  exact ⟨by first | rfl | (simp [errW_none, errW_some] <;> rfl) | (simp [*, errW_none, errW_some] <;> rfl), by repeat (first | (with_reducible first | exact HB.out | apply below_alloc | apply pw_below_drewN | apply below_drew1) | exact HB.out)⟩
 ·rw [if_neg c4] at H
  have c4b0 : decide (1048576 < (a0.size : Int)) = false := decide_eq_false c4
  have c4b1 : decide (1048576 < a0.size) = false := decide_eq_false (by omega)
  clear c4
  by_cases c5 : (a2.size : Int) > 1048576
  ·rw [if_pos c5] at H
   have c5b0 : decide (1048576 < (a2.size : Int)) = true := decide_eq_true c5
   have c5b1 : decide (1048576 < a2.size) = true := decide_eq_true (by omega)
   clear c5
   obtain rfl := Option.some.inj H
   go_enter Tryd.func8, Tryd.ntmps8
   go_wp2
   go_ret
   exact ⟨by first | rfl | (simp [errW_none, errW_some] <;> rfl) | (simp [*, errW_none, errW_some] <;> rfl), by repeat (first | (with_reducible first | exact HB.out | apply below_alloc | apply pw_below_drewN | apply below_drew1) | exact HB.out)⟩
  ·rw [if_neg c5] at H
   have c5b0 : decide (1048576 < (a2.size : Int)) = false := decide_eq_false c5
   have c5b1 : decide (1048576 < a2.size) = false := decide_eq_false (by omega)
   clear c5
   replace H := Option.bind_eq_some_iff.mp H
   obtain ⟨⟨t712, t713, t716, t719⟩, A60, H⟩ := H
   replace H : ((impl_SignAt.f k a0 a1 a2).bind fun bt721 => ((laws_eqSig.f k bt721.1 bt721.2.1 bt721.2.2.1 t712 t713 t716).bind fun t730 => (if t730 = true then (laws_FnExactSignAt.j0 k a0 a1 a2 t719 (bt721.2.2.2 != t719) t712 t713 t716 bt721.1 bt721.2.1 bt721.2.2.1) else (laws_FnExactSignAt.j0 k a0 a1 a2 t719 true t712 t713 t716 bt721.1 bt721.2.1 bt721.2.2.1)))) = some r := H
   have A6 := Aside0.mk A60
   clear A60
   replace H := Option.bind_eq_some_iff.mp H
   obtain ⟨⟨t721, t722, t725, t728⟩, A70, H⟩ := H
   replace H : ((laws_eqSig.f k t721 t722 t725 t712 t713 t716).bind fun t730 => (if t730 = true then (laws_FnExactSignAt.j0 k a0 a1 a2 t719 (t728 != t719) t712 t713 t716 t721 t722 t725) else (laws_FnExactSignAt.j0 k a0 a1 a2 t719 true t712 t713 t716 t721 t722 t725))) = some r := H
   have A7 := Aside0.mk A70
   clear A70
   have HC8 := Aside0.mk H
   clear H
   go_enter Tryd.func8, Tryd.ntmps8
   go_upto_region 7 with (first | ((with_reducible refine gate_callee (f := 38) rfl ?_); refine goesL_ (some 25) rfl rfl Tryd.func38 (by kernel_rfl) rfl #[.string a0, .int .i64 a1, .string a2] rfl (by (try simp only [List.map_toArray, List.map_cons, List.map_nil]); first | done | rfl | (simp only [List.length_drop, List.length_take]; rfl)) ?_; (with_reducible refine (spec_SignAt.calls k a0 a1 a2 t712 t713 t716 t719 _ A6.out).mono ?_); rintro e w9 ⟨v714, v717, rfl, ho0, ho1, hb⟩; refine ⟨_, rfl, ?_⟩; have n0_ := Aside0.mk (Kd.R_lower ho0 (below_size (by repeat (first | (with_reducible first | exact HB.out | apply below_alloc | apply pw_below_drewN | apply below_drew1) | exact HB.out)))); have n1_ := Aside0.mk (Kd.R_lower ho1 (below_size (by repeat (first | (with_reducible first | exact HB.out | apply below_alloc | apply pw_below_drewN | apply below_drew1) | exact HB.out)))); have n2_ := Aside0.mk (below_step (by repeat (first | (with_reducible first | exact HB.out | apply below_alloc | apply pw_below_drewN | apply below_drew1) | exact HB.out)) hb); clear HB; have HO715 := n0_; have HO718 := n1_; have HB := n2_; clear n0_ n1_ n2_; (try clear hb); (try clear hb2); (try clear hk); (try clear hi); (try clear ho0); (try clear ho1)) | ((with_reducible refine gate_dst (N := 7) rfl ?_); refine box_event ?hg (N := 7) ?hd (cs := #[.int .i64 0, .slice none 0 0, .slice none 0 0]) (t := 42) ?hr ?_; (case hd => rfl); (case hg => rfl); (case hr => first | (go_simp; done) | (go_simp; rfl)); intro gb720 hg w10 hbox hb; have n0_ := Aside0.mk (Kd.R_below (by (with_reducible repeat (first | apply Kd.R_alloc | apply Kd.R_drewN | apply Kd.R_drew)); exact HO715.out) hb); have n1_ := Aside0.mk (Kd.R_below (by (with_reducible repeat (first | apply Kd.R_alloc | apply Kd.R_drewN | apply Kd.R_drew)); exact HO718.out) hb); have n2_ := Aside0.mk (below_step (by repeat (first | (with_reducible first | exact HB.out | apply below_alloc | apply pw_below_drewN | apply below_drew1) | exact HB.out)) hb); have n3_ := Aside0.mk (hbox); have n4_ := Aside0.mk ((by rw [hg]; exact (below_size (by repeat (first | (with_reducible first | exact HB.out | apply below_alloc | apply pw_below_drewN | apply below_drew1) | exact HB.out))) : w.heap.size ≤ gb720)); have n5_ := Aside0.mk ((by rw [hg]; exact (below_size (by repeat (first | (with_reducible first | exact HB.out | apply below_alloc | apply pw_below_drewN | apply below_drew1) | exact HB.out))) : w.heap.size ≤ gb720)); clear HO715; clear HO718; clear HB; have HO715 := n0_; have HO718 := n1_; have HB := n2_; have BK720 := n3_; have GW720 := n4_; have GE720 := n5_; clear n0_ n1_ n2_ n3_ n4_ n5_; clear hb hbox hg; have hcz11_0 : w10.cell? ⟨gb720, 0, none⟩ = some (.int .i64 0) := (blk_cell BK720.out 0).trans rfl; have hcz11_1 : w10.cell? ⟨gb720, 1, none⟩ = some (.slice none 0 0) := (blk_cell BK720.out 1).trans rfl; have hcz11_2 : w10.cell? ⟨gb720, 2, none⟩ = some (.slice none 0 0) := (blk_cell BK720.out 2).trans rfl; have hfz11_0 := blk_frozen BK720.out 0; have hfz11_1 := blk_frozen BK720.out 1; have hfz11_2 := blk_frozen BK720.out 2; obtain ⟨Ao12, co12, eo12⟩ := Kd.R_slice HO715.out; subst eo12; obtain ⟨Ao13, co13, eo13⟩ := Kd.R_slice HO718.out; subst eo13) | ((with_reducible refine gate_callee (f := 39) rfl ?_); refine goesL_ (some 32) rfl rfl Tryd.func39 (by kernel_rfl) rfl #[.string a0, .int .i64 a1, .string a2] rfl (by (try simp only [List.map_toArray, List.map_cons, List.map_nil]); first | done | rfl | (simp only [List.length_drop, List.length_take]; rfl)) ?_; (with_reducible refine (impl_SignAt.calls k a0 a1 a2 t721 t722 t725 t728 _ A7.out (HLD.out.below HLD.out.pos (by repeat (first | (with_reducible first | exact HB.out | apply below_alloc | apply pw_below_drewN | apply below_drew1 | refine below_set ?_ GE720.out | refine below_set ?_ GE729.out | refine below_set ?_ GE743.out) | exact HB.out)))).mono ?_); rintro e w14 ⟨v723, v726, rfl, ho0, ho1, hb⟩; refine ⟨_, rfl, ?_⟩; have n0_ := Aside0.mk (Kd.R_mono (Kd.R_told (Kd.R_told (Kd.R_old (by (with_reducible repeat (first | apply Kd.R_alloc | apply Kd.R_drewN | apply Kd.R_drew)); exact (Kd.R_mono (Kd.R_far (p := ⟨gb720, 2, none⟩) (Kd.R_far (p := ⟨gb720, 1, none⟩) (Kd.R_far (p := ⟨gb720, 0, none⟩) (Kd.R_types HO715.out BK720.out (by decide)) (fun _ hk => hk.2) (.int .i64 t712)) (fun _ hk => hk.2) (.slice Ao12 t713.length co12)) (fun _ hk => hk.2) (.slice Ao13 t716.length co13)) (fun _ h_ => h_.1))) hb) (Kd.R_base ho0)) (Kd.R_base ho1)) (fun _ h_ => h_.1)); have n1_ := Aside0.mk (Kd.R_mono (Kd.R_told (Kd.R_told (Kd.R_old (by (with_reducible repeat (first | apply Kd.R_alloc | apply Kd.R_drewN | apply Kd.R_drew)); exact (Kd.R_mono (Kd.R_far (p := ⟨gb720, 2, none⟩) (Kd.R_far (p := ⟨gb720, 1, none⟩) (Kd.R_far (p := ⟨gb720, 0, none⟩) (Kd.R_types HO718.out BK720.out (by decide)) (fun _ hk => hk.2) (.int .i64 t712)) (fun _ hk => hk.2) (.slice Ao12 t713.length co12)) (fun _ hk => hk.2) (.slice Ao13 t716.length co13)) (fun _ h_ => h_.1))) hb) (Kd.R_base ho0)) (Kd.R_base ho1)) (fun _ h_ => h_.1)); have n2_ := Aside0.mk (Kd.R_lower (Kd.R_new' (Kd.R_new' ho0 (Kd.R_lt (by (with_reducible repeat (first | apply Kd.R_alloc | apply Kd.R_drewN | apply Kd.R_drew)); exact (Kd.R_mono (Kd.R_far (p := ⟨gb720, 2, none⟩) (Kd.R_far (p := ⟨gb720, 1, none⟩) (Kd.R_far (p := ⟨gb720, 0, none⟩) (Kd.R_types HO715.out BK720.out (by decide)) (fun _ hk => hk.2) (.int .i64 t712)) (fun _ hk => hk.2) (.slice Ao12 t713.length co12)) (fun _ hk => hk.2) (.slice Ao13 t716.length co13)) (fun _ h_ => h_.1))))) (Kd.R_lt (by (with_reducible repeat (first | apply Kd.R_alloc | apply Kd.R_drewN | apply Kd.R_drew)); exact (Kd.R_mono (Kd.R_far (p := ⟨gb720, 2, none⟩) (Kd.R_far (p := ⟨gb720, 1, none⟩) (Kd.R_far (p := ⟨gb720, 0, none⟩) (Kd.R_types HO718.out BK720.out (by decide)) (fun _ hk => hk.2) (.int .i64 t712)) (fun _ hk => hk.2) (.slice Ao12 t713.length co12)) (fun _ hk => hk.2) (.slice Ao13 t716.length co13)) (fun _ h_ => h_.1))))) (below_size (by repeat (first | (with_reducible first | exact HB.out | apply below_alloc | apply pw_below_drewN | apply below_drew1 | refine below_set ?_ GE720.out) | exact HB.out)))); have n3_ := Aside0.mk (Kd.R_lower (Kd.R_new' (Kd.R_new' ho1 (Kd.R_lt (by (with_reducible repeat (first | apply Kd.R_alloc | apply Kd.R_drewN | apply Kd.R_drew)); exact (Kd.R_mono (Kd.R_far (p := ⟨gb720, 2, none⟩) (Kd.R_far (p := ⟨gb720, 1, none⟩) (Kd.R_far (p := ⟨gb720, 0, none⟩) (Kd.R_types HO715.out BK720.out (by decide)) (fun _ hk => hk.2) (.int .i64 t712)) (fun _ hk => hk.2) (.slice Ao12 t713.length co12)) (fun _ hk => hk.2) (.slice Ao13 t716.length co13)) (fun _ h_ => h_.1))))) (Kd.R_lt (by (with_reducible repeat (first | apply Kd.R_alloc | apply Kd.R_drewN | apply Kd.R_drew)); exact (Kd.R_mono (Kd.R_far (p := ⟨gb720, 2, none⟩) (Kd.R_far (p := ⟨gb720, 1, none⟩) (Kd.R_far (p := ⟨gb720, 0, none⟩) (Kd.R_types HO718.out BK720.out (by decide)) (fun _ hk => hk.2) (.int .i64 t712)) (fun _ hk => hk.2) (.slice Ao12 t713.length co12)) (fun _ hk => hk.2) (.slice Ao13 t716.length co13)) (fun _ h_ => h_.1))))) (below_size (by repeat (first | (with_reducible first | exact HB.out | apply below_alloc | apply pw_below_drewN | apply below_drew1 | refine below_set ?_ GE720.out) | exact HB.out)))); have n4_ := Aside0.mk (blk_below (g := gb720) (o := .cells #[.int .i64 t712, .slice Ao12 t713.length co12, .slice Ao13 t716.length co13] 42 (0, 0)) (by (with_reducible repeat (first | refine blk_drewN ?_ _ | refine blk_drew ?_ | refine blk_alloc ?_ _)); refine blk_put (cs := #[.int .i64 t712, .slice Ao12 t713.length co12, .slice none 0 0]) ?_ 2 _ rfl; (with_reducible repeat (first | refine blk_drewN ?_ _ | refine blk_drew ?_ | refine blk_alloc ?_ _)); refine blk_put (cs := #[.int .i64 t712, .slice none 0 0, .slice none 0 0]) ?_ 1 _ rfl; (with_reducible repeat (first | refine blk_drewN ?_ _ | refine blk_drew ?_ | refine blk_alloc ?_ _)); refine blk_put (cs := #[.int .i64 0, .slice none 0 0, .slice none 0 0]) ?_ 0 _ rfl; (with_reducible repeat (first | refine blk_drewN ?_ _ | refine blk_drew ?_ | refine blk_alloc ?_ _)); exact BK720.out) hb); have n5_ := Aside0.mk (below_step (by repeat (first | (with_reducible first | exact HB.out | apply below_alloc | apply pw_below_drewN | apply below_drew1 | refine below_set ?_ GE720.out) | exact HB.out)) hb); clear HO715; clear HO718; clear BK720; clear HB; have HO715 := n0_; have HO718 := n1_; have HO724 := n2_; have HO727 := n3_; have BK720 := n4_; have HB := n5_; clear n0_ n1_ n2_ n3_ n4_ n5_; (try clear hb); (try clear hb2); (try clear hk); (try clear hi); (try clear ho0); (try clear ho1)) | ((with_reducible refine gate_dst (N := 9) rfl ?_); refine box_event ?hg (N := 9) ?hd (cs := #[.int .i64 0, .slice none 0 0, .slice none 0 0]) (t := 42) ?hr ?_; (case hd => rfl); (case hg => rfl); (case hr => first | (go_simp; done) | (go_simp; rfl)); intro gb729 hg w15 hbox hb; have n0_ := Aside0.mk (Kd.R_below (by (with_reducible repeat (first | apply Kd.R_alloc | apply Kd.R_drewN | apply Kd.R_drew)); exact HO715.out) hb); have n1_ := Aside0.mk (Kd.R_below (by (with_reducible repeat (first | apply Kd.R_alloc | apply Kd.R_drewN | apply Kd.R_drew)); exact HO718.out) hb); have n2_ := Aside0.mk (Kd.R_below (by (with_reducible repeat (first | apply Kd.R_alloc | apply Kd.R_drewN | apply Kd.R_drew)); exact HO724.out) hb); have n3_ := Aside0.mk (Kd.R_below (by (with_reducible repeat (first | apply Kd.R_alloc | apply Kd.R_drewN | apply Kd.R_drew)); exact HO727.out) hb); have n4_ := Aside0.mk (blk_below (g := gb720) (o := .cells #[.int .i64 t712, .slice Ao12 t713.length co12, .slice Ao13 t716.length co13] 42 (0, 0)) (by (with_reducible repeat (first | refine blk_drewN ?_ _ | refine blk_drew ?_ | refine blk_alloc ?_ _)); exact BK720.out) hb); have n5_ := Aside0.mk (below_step (by repeat (first | (with_reducible first | exact HB.out | apply below_alloc | apply pw_below_drewN | apply below_drew1 | refine below_set ?_ GE720.out) | exact HB.out)) hb); have n6_ := Aside0.mk (hbox); have n7_ := Aside0.mk ((by rw [hg]; exact (below_size (by repeat (first | (with_reducible first | exact HB.out | apply below_alloc | apply pw_below_drewN | apply below_drew1 | refine below_set ?_ GE720.out) | exact HB.out))) : w.heap.size ≤ gb729)); have n8_ := Aside0.mk ((by rw [hg]; exact (below_size (by repeat (first | (with_reducible first | exact HB.out | apply below_alloc | apply pw_below_drewN | apply below_drew1 | refine below_set ?_ GE720.out) | exact HB.out))) : w.heap.size ≤ gb729)); have n9_ := Aside0.mk ((by rw [hg]; exact Nat.ne_of_lt (blk_lt (g := gb720) (o := .cells #[.int .i64 t712, .slice Ao12 t713.length co12, .slice Ao13 t716.length co13] 42 (0, 0)) (by (with_reducible repeat (first | refine blk_drewN ?_ _ | refine blk_drew ?_ | refine blk_alloc ?_ _)); exact BK720.out)) : gb720 ≠ gb729)); have n10_ := Aside0.mk ((by rw [hg]; exact Nat.ne_of_gt (blk_lt (g := gb720) (o := .cells #[.int .i64 t712, .slice Ao12 t713.length co12, .slice Ao13 t716.length co13] 42 (0, 0)) (by (with_reducible repeat (first | refine blk_drewN ?_ _ | refine blk_drew ?_ | refine blk_alloc ?_ _)); exact BK720.out)) : gb729 ≠ gb720)); clear HO715; clear HO718; clear HO724; clear HO727; clear BK720; clear HB; have HO715 := n0_; have HO718 := n1_; have HO724 := n2_; have HO727 := n3_; have BK720 := n4_; have HB := n5_; have BK729 := n6_; have GW729 := n7_; have GE729 := n8_; have NB720_729 := n9_; have NB729_720 := n10_; clear n0_ n1_ n2_ n3_ n4_ n5_ n6_ n7_ n8_ n9_ n10_; clear hb hbox hg; have hnb16 := NB729_720.out; have hnc16 := NB720_729.out; have hcz17_0 : w15.cell? ⟨gb729, 0, none⟩ = some (.int .i64 0) := (blk_cell BK729.out 0).trans rfl; have hcz17_1 : w15.cell? ⟨gb729, 1, none⟩ = some (.slice none 0 0) := (blk_cell BK729.out 1).trans rfl; have hcz17_2 : w15.cell? ⟨gb729, 2, none⟩ = some (.slice none 0 0) := (blk_cell BK729.out 2).trans rfl; have hfz17_0 := blk_frozen BK729.out 0; have hfz17_1 := blk_frozen BK729.out 1; have hfz17_2 := blk_frozen BK729.out 2; obtain ⟨Ao18, co18, eo18⟩ := Kd.R_slice HO724.out; subst eo18; obtain ⟨Ao19, co19, eo19⟩ := Kd.R_slice HO727.out; subst eo19))
   (try simp only [Act.put, List.setIfInBounds_toArray, List.set_cons_zero, List.set_cons_succ])
   go_cut [43] (fun v43 wc => ∃ (kq : Nat) (x43_7 : Bool), v43 = .bool x43_7 ∧ Aside0 (laws_FnExactSignAt.j0 kq a0 a1 a2 t719 x43_7 t712 t713 t716 t721 t722 t725 = some r) ∧ Aside0 (kq ≤ k) ∧ Aside0 (Kd.R Kd.string 9 wc w.heap.size (fun k_ => some k_ ≠ ((.slice Ao13 t716.length co13) : Value).ownBlock ∧ some k_ ≠ ((.slice Ao18 t722.length co18) : Value).ownBlock ∧ some k_ ≠ ((.slice Ao19 t725.length co19) : Value).ownBlock) (.slice Ao12 t713.length co12) t713) ∧ Aside0 (Kd.R Kd.string 9 wc w.heap.size (fun k_ => some k_ ≠ ((.slice Ao12 t713.length co12) : Value).ownBlock ∧ some k_ ≠ ((.slice Ao18 t722.length co18) : Value).ownBlock ∧ some k_ ≠ ((.slice Ao19 t725.length co19) : Value).ownBlock) (.slice Ao13 t716.length co13) t716) ∧ Aside0 (Kd.R Kd.string 9 wc w.heap.size (fun k_ => some k_ ≠ ((.slice Ao12 t713.length co12) : Value).ownBlock ∧ some k_ ≠ ((.slice Ao13 t716.length co13) : Value).ownBlock ∧ some k_ ≠ ((.slice Ao19 t725.length co19) : Value).ownBlock) (.slice Ao18 t722.length co18) t722) ∧ Aside0 (Kd.R Kd.string 9 wc w.heap.size (fun k_ => some k_ ≠ ((.slice Ao12 t713.length co12) : Value).ownBlock ∧ some k_ ≠ ((.slice Ao13 t716.length co13) : Value).ownBlock ∧ some k_ ≠ ((.slice Ao18 t722.length co18) : Value).ownBlock) (.slice Ao19 t725.length co19) t725) ∧ Aside0 (wc.heap[gb720]? = some (.cells #[.int .i64 t712, (.slice Ao12 t713.length co12), (.slice Ao13 t716.length co13)] 42 (0, 0))) ∧ Aside0 (wc.heap[gb729]? = some (.cells #[.int .i64 t721, (.slice Ao18 t722.length co18), (.slice Ao19 t725.length co19)] 42 (0, 0))) ∧ Aside0 (Below w.heap.size w wc))
   case first =>
    have H := HC8.out
    clear HC8
    replace H := Option.bind_eq_some_iff.mp H
    obtain ⟨t730, A200, H⟩ := H
    replace H : (if t730 = true then (laws_FnExactSignAt.j0 k a0 a1 a2 t719 (t728 != t719) t712 t713 t716 t721 t722 t725) else (laws_FnExactSignAt.j0 k a0 a1 a2 t719 true t712 t713 t716 t721 t722 t725)) = some r := H
    have A20 := Aside0.mk A200
    clear A200
    by_cases c21 : t730 = true
    ·subst c21
     have H1 : (laws_FnExactSignAt.j0 k a0 a1 a2 t719 (t728 != t719) t712 t713 t716 t721 t722 t725) = some r := by rw [if_pos rfl] at H; exact H
     clear H
     have H := H1
     clear H1
     have H' := Aside0.mk H
     clear H
     have hnb22 := NB729_720.out
     have hnc22 := NB720_729.out
     have hcz23_0 : w15.cell? ⟨gb729, 0, none⟩ = some (.int .i64 0) := (blk_cell BK729.out 0).trans rfl
     have hcz23_1 : w15.cell? ⟨gb729, 1, none⟩ = some (.slice none 0 0) := (blk_cell BK729.out 1).trans rfl
     have hcz23_2 : w15.cell? ⟨gb729, 2, none⟩ = some (.slice none 0 0) := (blk_cell BK729.out 2).trans rfl
     have hfz23_0 := blk_frozen BK729.out 0
     have hfz23_1 := blk_frozen BK729.out 1
     have hfz23_2 := blk_frozen BK729.out 2
     have hcz24_0 : w15.cell? ⟨gb720, 0, none⟩ = some (.int .i64 t712) := (blk_cell BK720.out 0).trans rfl
     have hcz24_1 : w15.cell? ⟨gb720, 1, none⟩ = some (.slice Ao12 t713.length co12) := (blk_cell BK720.out 1).trans rfl
     have hcz24_2 : w15.cell? ⟨gb720, 2, none⟩ = some (.slice Ao13 t716.length co13) := (blk_cell BK720.out 2).trans rfl
     have hfz24_0 := blk_frozen BK720.out 0
     have hfz24_1 := blk_frozen BK720.out 1
     have hfz24_2 := blk_frozen BK720.out 2
     go_wp2_with (first | ((with_reducible refine gate_callee (f := 32) rfl ?_); refine goesL_ (some 37) rfl rfl Tryd.func32 (by kernel_rfl) rfl #[.agg #[.int .i64 t721, .slice Ao18 t722.length co18, .slice Ao19 t725.length co19], .agg #[.int .i64 t712, .slice Ao12 t713.length co12, .slice Ao13 t716.length co13]] rfl (by (try simp only [List.map_toArray, List.map_cons, List.map_nil]); first | done | rfl | (simp only [List.length_drop, List.length_take]; rfl)) ?_; (with_reducible refine (laws_eqSig.calls k t721 _ _ t722 _ _ t725 t712 _ _ t713 _ _ t716 true _ ?side1 ?side2 ?side3 ?side4 ?side5 ?side6 ?side7 ?side8 A20.out).mono ?_); (case side1 => refine (Kd.R_reads' (e := 9) (base := w.heap.size) (ok := fun k_ => ((some k_ ≠ (.slice Ao19 t725.length co19 : Value).ownBlock ∧ some k_ ≠ (.slice Ao12 t713.length co12 : Value).ownBlock) ∧ some k_ ≠ (.slice Ao13 t716.length co13 : Value).ownBlock)) (n := t722.length) (c := co18) ?_).2.2; exact (by (with_reducible repeat (first | apply Kd.R_alloc | apply Kd.R_drewN | apply Kd.R_drew)); exact (Kd.R_mono (Kd.R_far (p := ⟨gb729, 2, none⟩) (Kd.R_far (p := ⟨gb729, 1, none⟩) (Kd.R_far (p := ⟨gb729, 0, none⟩) (Kd.R_types HO724.out BK729.out (by decide)) (fun _ hk => hk.2) (.int .i64 t721)) (fun _ hk => hk.2) (.slice Ao18 t722.length co18)) (fun _ hk => hk.2) (.slice Ao19 t725.length co19)) (fun _ h_ => h_.1)))); (case side2 => exact (Kd.R_reads' HO724.out).2.1); (case side3 => refine (Kd.R_reads' (e := 9) (base := w.heap.size) (ok := fun k_ => ((some k_ ≠ (.slice Ao18 t722.length co18 : Value).ownBlock ∧ some k_ ≠ (.slice Ao12 t713.length co12 : Value).ownBlock) ∧ some k_ ≠ (.slice Ao13 t716.length co13 : Value).ownBlock)) (n := t725.length) (c := co19) ?_).2.2; exact (by (with_reducible repeat (first | apply Kd.R_alloc | apply Kd.R_drewN | apply Kd.R_drew)); exact (Kd.R_mono (Kd.R_far (p := ⟨gb729, 2, none⟩) (Kd.R_far (p := ⟨gb729, 1, none⟩) (Kd.R_far (p := ⟨gb729, 0, none⟩) (Kd.R_types HO727.out BK729.out (by decide)) (fun _ hk => hk.2) (.int .i64 t721)) (fun _ hk => hk.2) (.slice Ao18 t722.length co18)) (fun _ hk => hk.2) (.slice Ao19 t725.length co19)) (fun _ h_ => h_.1)))); (case side4 => exact (Kd.R_reads' HO727.out).2.1); (case side5 => refine (Kd.R_reads' (e := 9) (base := w.heap.size) (ok := fun k_ => ((some k_ ≠ (.slice Ao13 t716.length co13 : Value).ownBlock ∧ some k_ ≠ (.slice Ao18 t722.length co18 : Value).ownBlock) ∧ some k_ ≠ (.slice Ao19 t725.length co19 : Value).ownBlock)) (n := t713.length) (c := co12) ?_).2.2; exact (by (with_reducible repeat (first | apply Kd.R_alloc | apply Kd.R_drewN | apply Kd.R_drew)); exact (Kd.R_mono (Kd.R_far (p := ⟨gb729, 2, none⟩) (Kd.R_far (p := ⟨gb729, 1, none⟩) (Kd.R_far (p := ⟨gb729, 0, none⟩) (Kd.R_types HO715.out BK729.out (by decide)) (fun _ hk => hk.2) (.int .i64 t721)) (fun _ hk => hk.2) (.slice Ao18 t722.length co18)) (fun _ hk => hk.2) (.slice Ao19 t725.length co19)) (fun _ h_ => h_.1)))); (case side6 => exact (Kd.R_reads' HO715.out).2.1); (case side7 => refine (Kd.R_reads' (e := 9) (base := w.heap.size) (ok := fun k_ => ((some k_ ≠ (.slice Ao12 t713.length co12 : Value).ownBlock ∧ some k_ ≠ (.slice Ao18 t722.length co18 : Value).ownBlock) ∧ some k_ ≠ (.slice Ao19 t725.length co19 : Value).ownBlock)) (n := t716.length) (c := co13) ?_).2.2; exact (by (with_reducible repeat (first | apply Kd.R_alloc | apply Kd.R_drewN | apply Kd.R_drew)); exact (Kd.R_mono (Kd.R_far (p := ⟨gb729, 2, none⟩) (Kd.R_far (p := ⟨gb729, 1, none⟩) (Kd.R_far (p := ⟨gb729, 0, none⟩) (Kd.R_types HO718.out BK729.out (by decide)) (fun _ hk => hk.2) (.int .i64 t721)) (fun _ hk => hk.2) (.slice Ao18 t722.length co18)) (fun _ hk => hk.2) (.slice Ao19 t725.length co19)) (fun _ h_ => h_.1)))); (case side8 => exact (Kd.R_reads' HO718.out).2.1); rintro e w25 ⟨rfl, hb⟩; refine ⟨_, rfl, ?_⟩; have n0_ := Aside0.mk (Kd.R_below (by (with_reducible repeat (first | apply Kd.R_alloc | apply Kd.R_drewN | apply Kd.R_drew)); exact (Kd.R_mono (Kd.R_far (p := ⟨gb729, 2, none⟩) (Kd.R_far (p := ⟨gb729, 1, none⟩) (Kd.R_far (p := ⟨gb729, 0, none⟩) (Kd.R_types HO715.out BK729.out (by decide)) (fun _ hk => hk.2) (.int .i64 t721)) (fun _ hk => hk.2) (.slice Ao18 t722.length co18)) (fun _ hk => hk.2) (.slice Ao19 t725.length co19)) (fun _ h_ => h_.1))) hb); have n1_ := Aside0.mk (Kd.R_below (by (with_reducible repeat (first | apply Kd.R_alloc | apply Kd.R_drewN | apply Kd.R_drew)); exact (Kd.R_mono (Kd.R_far (p := ⟨gb729, 2, none⟩) (Kd.R_far (p := ⟨gb729, 1, none⟩) (Kd.R_far (p := ⟨gb729, 0, none⟩) (Kd.R_types HO718.out BK729.out (by decide)) (fun _ hk => hk.2) (.int .i64 t721)) (fun _ hk => hk.2) (.slice Ao18 t722.length co18)) (fun _ hk => hk.2) (.slice Ao19 t725.length co19)) (fun _ h_ => h_.1))) hb); have n2_ := Aside0.mk (Kd.R_below (by (with_reducible repeat (first | apply Kd.R_alloc | apply Kd.R_drewN | apply Kd.R_drew)); exact (Kd.R_mono (Kd.R_far (p := ⟨gb729, 2, none⟩) (Kd.R_far (p := ⟨gb729, 1, none⟩) (Kd.R_far (p := ⟨gb729, 0, none⟩) (Kd.R_types HO724.out BK729.out (by decide)) (fun _ hk => hk.2) (.int .i64 t721)) (fun _ hk => hk.2) (.slice Ao18 t722.length co18)) (fun _ hk => hk.2) (.slice Ao19 t725.length co19)) (fun _ h_ => h_.1))) hb); have n3_ := Aside0.mk (Kd.R_below (by (with_reducible repeat (first | apply Kd.R_alloc | apply Kd.R_drewN | apply Kd.R_drew)); exact (Kd.R_mono (Kd.R_far (p := ⟨gb729, 2, none⟩) (Kd.R_far (p := ⟨gb729, 1, none⟩) (Kd.R_far (p := ⟨gb729, 0, none⟩) (Kd.R_types HO727.out BK729.out (by decide)) (fun _ hk => hk.2) (.int .i64 t721)) (fun _ hk => hk.2) (.slice Ao18 t722.length co18)) (fun _ hk => hk.2) (.slice Ao19 t725.length co19)) (fun _ h_ => h_.1))) hb); have n4_ := Aside0.mk (blk_below (g := gb720) (o := .cells #[.int .i64 t712, .slice Ao12 t713.length co12, .slice Ao13 t716.length co13] 42 (0, 0)) (by (with_reducible repeat (first | refine blk_drewN ?_ _ | refine blk_drew ?_ | refine blk_alloc ?_ _)); refine blk_far ?_ NB720_729.out _; (with_reducible repeat (first | refine blk_drewN ?_ _ | refine blk_drew ?_ | refine blk_alloc ?_ _)); refine blk_far ?_ NB720_729.out _; (with_reducible repeat (first | refine blk_drewN ?_ _ | refine blk_drew ?_ | refine blk_alloc ?_ _)); refine blk_far ?_ NB720_729.out _; (with_reducible repeat (first | refine blk_drewN ?_ _ | refine blk_drew ?_ | refine blk_alloc ?_ _)); exact BK720.out) hb); have n5_ := Aside0.mk (blk_below (g := gb729) (o := .cells #[.int .i64 t721, .slice Ao18 t722.length co18, .slice Ao19 t725.length co19] 42 (0, 0)) (by (with_reducible repeat (first | refine blk_drewN ?_ _ | refine blk_drew ?_ | refine blk_alloc ?_ _)); refine blk_put (cs := #[.int .i64 t721, .slice Ao18 t722.length co18, .slice none 0 0]) ?_ 2 _ rfl; (with_reducible repeat (first | refine blk_drewN ?_ _ | refine blk_drew ?_ | refine blk_alloc ?_ _)); refine blk_put (cs := #[.int .i64 t721, .slice none 0 0, .slice none 0 0]) ?_ 1 _ rfl; (with_reducible repeat (first | refine blk_drewN ?_ _ | refine blk_drew ?_ | refine blk_alloc ?_ _)); refine blk_put (cs := #[.int .i64 0, .slice none 0 0, .slice none 0 0]) ?_ 0 _ rfl; (with_reducible repeat (first | refine blk_drewN ?_ _ | refine blk_drew ?_ | refine blk_alloc ?_ _)); exact BK729.out) hb); have n6_ := Aside0.mk (below_step (by repeat (first | (with_reducible first | exact HB.out | apply below_alloc | apply pw_below_drewN | apply below_drew1 | refine below_set ?_ GE720.out | refine below_set ?_ GE729.out) | exact HB.out)) hb); clear HO715; clear HO718; clear HO724; clear HO727; clear BK720; clear BK729; clear HB; have HO715 := n0_; have HO718 := n1_; have HO724 := n2_; have HO727 := n3_; have BK720 := n4_; have BK729 := n5_; have HB := n6_; clear n0_ n1_ n2_ n3_ n4_ n5_ n6_; (try clear hb); (try clear hb2); (try clear hk); (try clear hi)))
     go_meet
     case rel => exact ⟨_, ((t728 != t719)), (by first | rfl | (simp; done) | (simp [*]; done)), H', ⟨by first | omega | exact Nat.le_refl _⟩, ⟨by (with_reducible repeat (first | apply Kd.R_alloc | apply Kd.R_drewN | apply Kd.R_drew)); exact Kd.R_mono HO715.out (fun _ hk => ⟨hk.1.1, ⟨hk.1.2, hk.2⟩⟩)⟩, ⟨by (with_reducible repeat (first | apply Kd.R_alloc | apply Kd.R_drewN | apply Kd.R_drew)); exact Kd.R_mono HO718.out (fun _ hk => ⟨hk.1.1, ⟨hk.1.2, hk.2⟩⟩)⟩, ⟨by (with_reducible repeat (first | apply Kd.R_alloc | apply Kd.R_drewN | apply Kd.R_drew)); exact Kd.R_mono HO724.out (fun _ hk => ⟨hk.1.2, ⟨hk.2, hk.1.1⟩⟩)⟩, ⟨by (with_reducible repeat (first | apply Kd.R_alloc | apply Kd.R_drewN | apply Kd.R_drew)); exact Kd.R_mono HO727.out (fun _ hk => ⟨hk.1.2, ⟨hk.2, hk.1.1⟩⟩)⟩, ⟨by (with_reducible repeat (first | refine blk_drewN ?_ _ | refine blk_drew ?_ | refine blk_alloc ?_ _)); exact BK720.out⟩, ⟨by (with_reducible repeat (first | refine blk_drewN ?_ _ | refine blk_drew ?_ | refine blk_alloc ?_ _)); exact BK729.out⟩, ⟨by repeat (first | (with_reducible first | exact HB.out | apply below_alloc | apply pw_below_drewN | apply below_drew1 | refine below_set ?_ GE720.out | refine below_set ?_ GE729.out) | exact HB.out)⟩⟩
    ·replace c21 := Bool.eq_false_iff.mpr c21
     subst c21
     have H1 : (laws_FnExactSignAt.j0 k a0 a1 a2 t719 true t712 t713 t716 t721 t722 t725) = some r := by rw [if_neg (show ¬ (false = true) by decide)] at H; exact H
     clear H
     have H := H1
     clear H1
     have H' := Aside0.mk H
     clear H
     have hnb26 := NB729_720.out
     have hnc26 := NB720_729.out
     have hcz27_0 : w15.cell? ⟨gb729, 0, none⟩ = some (.int .i64 0) := (blk_cell BK729.out 0).trans rfl
     have hcz27_1 : w15.cell? ⟨gb729, 1, none⟩ = some (.slice none 0 0) := (blk_cell BK729.out 1).trans rfl
     have hcz27_2 : w15.cell? ⟨gb729, 2, none⟩ = some (.slice none 0 0) := (blk_cell BK729.out 2).trans rfl
     have hfz27_0 := blk_frozen BK729.out 0
     have hfz27_1 := blk_frozen BK729.out 1
     have hfz27_2 := blk_frozen BK729.out 2
     have hcz28_0 : w15.cell? ⟨gb720, 0, none⟩ = some (.int .i64 t712) := (blk_cell BK720.out 0).trans rfl
     have hcz28_1 : w15.cell? ⟨gb720, 1, none⟩ = some (.slice Ao12 t713.length co12) := (blk_cell BK720.out 1).trans rfl
     have hcz28_2 : w15.cell? ⟨gb720, 2, none⟩ = some (.slice Ao13 t716.length co13) := (blk_cell BK720.out 2).trans rfl
     have hfz28_0 := blk_frozen BK720.out 0
     have hfz28_1 := blk_frozen BK720.out 1
     have hfz28_2 := blk_frozen BK720.out 2
     go_wp2_with (first | ((with_reducible refine gate_callee (f := 32) rfl ?_); refine goesL_ (some 37) rfl rfl Tryd.func32 (by kernel_rfl) rfl #[.agg #[.int .i64 t721, .slice Ao18 t722.length co18, .slice Ao19 t725.length co19], .agg #[.int .i64 t712, .slice Ao12 t713.length co12, .slice Ao13 t716.length co13]] rfl (by (try simp only [List.map_toArray, List.map_cons, List.map_nil]); first | done | rfl | (simp only [List.length_drop, List.length_take]; rfl)) ?_; (with_reducible refine (laws_eqSig.calls k t721 _ _ t722 _ _ t725 t712 _ _ t713 _ _ t716 false _ ?side1 ?side2 ?side3 ?side4 ?side5 ?side6 ?side7 ?side8 A20.out).mono ?_); (case side1 => refine (Kd.R_reads' (e := 9) (base := w.heap.size) (ok := fun k_ => ((some k_ ≠ (.slice Ao19 t725.length co19 : Value).ownBlock ∧ some k_ ≠ (.slice Ao12 t713.length co12 : Value).ownBlock) ∧ some k_ ≠ (.slice Ao13 t716.length co13 : Value).ownBlock)) (n := t722.length) (c := co18) ?_).2.2; exact (by (with_reducible repeat (first | apply Kd.R_alloc | apply Kd.R_drewN | apply Kd.R_drew)); exact (Kd.R_mono (Kd.R_far (p := ⟨gb729, 2, none⟩) (Kd.R_far (p := ⟨gb729, 1, none⟩) (Kd.R_far (p := ⟨gb729, 0, none⟩) (Kd.R_types HO724.out BK729.out (by decide)) (fun _ hk => hk.2) (.int .i64 t721)) (fun _ hk => hk.2) (.slice Ao18 t722.length co18)) (fun _ hk => hk.2) (.slice Ao19 t725.length co19)) (fun _ h_ => h_.1)))); (case side2 => exact (Kd.R_reads' HO724.out).2.1); (case side3 => refine (Kd.R_reads' (e := 9) (base := w.heap.size) (ok := fun k_ => ((some k_ ≠ (.slice Ao18 t722.length co18 : Value).ownBlock ∧ some k_ ≠ (.slice Ao12 t713.length co12 : Value).ownBlock) ∧ some k_ ≠ (.slice Ao13 t716.length co13 : Value).ownBlock)) (n := t725.length) (c := co19) ?_).2.2; exact (by (with_reducible repeat (first | apply Kd.R_alloc | apply Kd.R_drewN | apply Kd.R_drew)); exact (Kd.R_mono (Kd.R_far (p := ⟨gb729, 2, none⟩) (Kd.R_far (p := ⟨gb729, 1, none⟩) (Kd.R_far (p := ⟨gb729, 0, none⟩) (Kd.R_types HO727.out BK729.out (by decide)) (fun _ hk => hk.2) (.int .i64 t721)) (fun _ hk => hk.2) (.slice Ao18 t722.length co18)) (fun _ hk => hk.2) (.slice Ao19 t725.length co19)) (fun _ h_ => h_.1)))); (case side4 => exact (Kd.R_reads' HO727.out).2.1); (case side5 => refine (Kd.R_reads' (e := 9) (base := w.heap.size) (ok := fun k_ => ((some k_ ≠ (.slice Ao13 t716.length co13 : Value).ownBlock ∧ some k_ ≠ (.slice Ao18 t722.length co18 : Value).ownBlock) ∧ some k_ ≠ (.slice Ao19 t725.length co19 : Value).ownBlock)) (n := t713.length) (c := co12) ?_).2.2; exact (by (with_reducible repeat (first | apply Kd.R_alloc | apply Kd.R_drewN | apply Kd.R_drew)); exact (Kd.R_mono (Kd.R_far (p := ⟨gb729, 2, none⟩) (Kd.R_far (p := ⟨gb729, 1, none⟩) (Kd.R_far (p := ⟨gb729, 0, none⟩) (Kd.R_types HO715.out BK729.out (by decide)) (fun _ hk => hk.2) (.int .i64 t721)) (fun _ hk => hk.2) (.slice Ao18 t722.length co18)) (fun _ hk => hk.2) (.slice Ao19 t725.length co19)) (fun _ h_ => h_.1)))); (case side6 => exact (Kd.R_reads' HO715.out).2.1); (case side7 => refine (Kd.R_reads' (e := 9) (base := w.heap.size) (ok := fun k_ => ((some k_ ≠ (.slice Ao12 t713.length co12 : Value).ownBlock ∧ some k_ ≠ (.slice Ao18 t722.length co18 : Value).ownBlock) ∧ some k_ ≠ (.slice Ao19 t725.length co19 : Value).ownBlock)) (n := t716.length) (c := co13) ?_).2.2; exact (by (with_reducible repeat (first | apply Kd.R_alloc | apply Kd.R_drewN | apply Kd.R_drew)); exact (Kd.R_mono (Kd.R_far (p := ⟨gb729, 2, none⟩) (Kd.R_far (p := ⟨gb729, 1, none⟩) (Kd.R_far (p := ⟨gb729, 0, none⟩) (Kd.R_types HO718.out BK729.out (by decide)) (fun _ hk => hk.2) (.int .i64 t721)) (fun _ hk => hk.2) (.slice Ao18 t722.length co18)) (fun _ hk => hk.2) (.slice Ao19 t725.length co19)) (fun _ h_ => h_.1)))); (case side8 => exact (Kd.R_reads' HO718.out).2.1); rintro e w29 ⟨rfl, hb⟩; refine ⟨_, rfl, ?_⟩; have n0_ := Aside0.mk (Kd.R_below (by (with_reducible repeat (first | apply Kd.R_alloc | apply Kd.R_drewN | apply Kd.R_drew)); exact (Kd.R_mono (Kd.R_far (p := ⟨gb729, 2, none⟩) (Kd.R_far (p := ⟨gb729, 1, none⟩) (Kd.R_far (p := ⟨gb729, 0, none⟩) (Kd.R_types HO715.out BK729.out (by decide)) (fun _ hk => hk.2) (.int .i64 t721)) (fun _ hk => hk.2) (.slice Ao18 t722.length co18)) (fun _ hk => hk.2) (.slice Ao19 t725.length co19)) (fun _ h_ => h_.1))) hb); have n1_ := Aside0.mk (Kd.R_below (by (with_reducible repeat (first | apply Kd.R_alloc | apply Kd.R_drewN | apply Kd.R_drew)); exact (Kd.R_mono (Kd.R_far (p := ⟨gb729, 2, none⟩) (Kd.R_far (p := ⟨gb729, 1, none⟩) (Kd.R_far (p := ⟨gb729, 0, none⟩) (Kd.R_types HO718.out BK729.out (by decide)) (fun _ hk => hk.2) (.int .i64 t721)) (fun _ hk => hk.2) (.slice Ao18 t722.length co18)) (fun _ hk => hk.2) (.slice Ao19 t725.length co19)) (fun _ h_ => h_.1))) hb); have n2_ := Aside0.mk (Kd.R_below (by (with_reducible repeat (first | apply Kd.R_alloc | apply Kd.R_drewN | apply Kd.R_drew)); exact (Kd.R_mono (Kd.R_far (p := ⟨gb729, 2, none⟩) (Kd.R_far (p := ⟨gb729, 1, none⟩) (Kd.R_far (p := ⟨gb729, 0, none⟩) (Kd.R_types HO724.out BK729.out (by decide)) (fun _ hk => hk.2) (.int .i64 t721)) (fun _ hk => hk.2) (.slice Ao18 t722.length co18)) (fun _ hk => hk.2) (.slice Ao19 t725.length co19)) (fun _ h_ => h_.1))) hb); have n3_ := Aside0.mk (Kd.R_below (by (with_reducible repeat (first | apply Kd.R_alloc | apply Kd.R_drewN | apply Kd.R_drew)); exact (Kd.R_mono (Kd.R_far (p := ⟨gb729, 2, none⟩) (Kd.R_far (p := ⟨gb729, 1, none⟩) (Kd.R_far (p := ⟨gb729, 0, none⟩) (Kd.R_types HO727.out BK729.out (by decide)) (fun _ hk => hk.2) (.int .i64 t721)) (fun _ hk => hk.2) (.slice Ao18 t722.length co18)) (fun _ hk => hk.2) (.slice Ao19 t725.length co19)) (fun _ h_ => h_.1))) hb); have n4_ := Aside0.mk (blk_below (g := gb720) (o := .cells #[.int .i64 t712, .slice Ao12 t713.length co12, .slice Ao13 t716.length co13] 42 (0, 0)) (by (with_reducible repeat (first | refine blk_drewN ?_ _ | refine blk_drew ?_ | refine blk_alloc ?_ _)); refine blk_far ?_ NB720_729.out _; (with_reducible repeat (first | refine blk_drewN ?_ _ | refine blk_drew ?_ | refine blk_alloc ?_ _)); refine blk_far ?_ NB720_729.out _; (with_reducible repeat (first | refine blk_drewN ?_ _ | refine blk_drew ?_ | refine blk_alloc ?_ _)); refine blk_far ?_ NB720_729.out _; (with_reducible repeat (first | refine blk_drewN ?_ _ | refine blk_drew ?_ | refine blk_alloc ?_ _)); exact BK720.out) hb); have n5_ := Aside0.mk (blk_below (g := gb729) (o := .cells #[.int .i64 t721, .slice Ao18 t722.length co18, .slice Ao19 t725.length co19] 42 (0, 0)) (by (with_reducible repeat (first | refine blk_drewN ?_ _ | refine blk_drew ?_ | refine blk_alloc ?_ _)); refine blk_put (cs := #[.int .i64 t721, .slice Ao18 t722.length co18, .slice none 0 0]) ?_ 2 _ rfl; (with_reducible repeat (first | refine blk_drewN ?_ _ | refine blk_drew ?_ | refine blk_alloc ?_ _)); refine blk_put (cs := #[.int .i64 t721, .slice none 0 0, .slice none 0 0]) ?_ 1 _ rfl; (with_reducible repeat (first | refine blk_drewN ?_ _ | refine blk_drew ?_ | refine blk_alloc ?_ _)); refine blk_put (cs := #[.int .i64 0, .slice none 0 0, .slice none 0 0]) ?_ 0 _ rfl; (with_reducible repeat (first | refine blk_drewN ?_ _ | refine blk_drew ?_ | refine blk_alloc ?_ _)); exact BK729.out) hb); have n6_ := Aside0.mk (below_step (by repeat (first | (with_reducible first | exact HB.out | apply below_alloc | apply pw_below_drewN | apply below_drew1 | refine below_set ?_ GE720.out | refine below_set ?_ GE729.out) | exact HB.out)) hb); clear HO715; clear HO718; clear HO724; clear HO727; clear BK720; clear BK729; clear HB; have HO715 := n0_; have HO718 := n1_; have HO724 := n2_; have HO727 := n3_; have BK720 := n4_; have BK729 := n5_; have HB := n6_; clear n0_ n1_ n2_ n3_ n4_ n5_ n6_; (try clear hb); (try clear hb2); (try clear hk); (try clear hi)))
     go_meet
     case rel => exact ⟨_, (true), (by first | rfl | (simp; done) | (simp [*]; done)), H', ⟨by first | omega | exact Nat.le_refl _⟩, ⟨by (with_reducible repeat (first | apply Kd.R_alloc | apply Kd.R_drewN | apply Kd.R_drew)); exact Kd.R_mono HO715.out (fun _ hk => ⟨hk.1.1, ⟨hk.1.2, hk.2⟩⟩)⟩, ⟨by (with_reducible repeat (first | apply Kd.R_alloc | apply Kd.R_drewN | apply Kd.R_drew)); exact Kd.R_mono HO718.out (fun _ hk => ⟨hk.1.1, ⟨hk.1.2, hk.2⟩⟩)⟩, ⟨by (with_reducible repeat (first | apply Kd.R_alloc | apply Kd.R_drewN | apply Kd.R_drew)); exact Kd.R_mono HO724.out (fun _ hk => ⟨hk.1.2, ⟨hk.2, hk.1.1⟩⟩)⟩, ⟨by (with_reducible repeat (first | apply Kd.R_alloc | apply Kd.R_drewN | apply Kd.R_drew)); exact Kd.R_mono HO727.out (fun _ hk => ⟨hk.1.2, ⟨hk.2, hk.1.1⟩⟩)⟩, ⟨by (with_reducible repeat (first | refine blk_drewN ?_ _ | refine blk_drew ?_ | refine blk_alloc ?_ _)); exact BK720.out⟩, ⟨by (with_reducible repeat (first | refine blk_drewN ?_ _ | refine blk_drew ?_ | refine blk_alloc ?_ _)); exact BK729.out⟩, ⟨by repeat (first | (with_reducible first | exact HB.out | apply below_alloc | apply pw_below_drewN | apply below_drew1 | refine below_set ?_ GE720.out | refine below_set ?_ GE729.out) | exact HB.out)⟩⟩
   case rest =>
    clear HC8
    try clear c1
    try clear c2
    try clear p2
    try clear c3
    try clear c4
    try clear c4b0
    try clear c4b1
    try clear c5
    try clear c5b0
    try clear c5b1
    try clear c8
    try clear c16
    try clear c21
    try clear c22
    try clear c26
    try clear hcz11_0
    try clear hcz11_1
    try clear hcz11_2
    try clear hcz17_0
    try clear hcz17_1
    try clear hcz17_2
    try clear hcz23_0
    try clear hcz23_1
    try clear hcz23_2
    try clear hcz24_0
    try clear hcz24_1
    try clear hcz24_2
    try clear hcz27_0
    try clear hcz27_1
    try clear hcz27_2
    try clear hcz28_0
    try clear hcz28_1
    try clear hcz28_2
    try clear hfz11_0
    try clear hfz11_1
    try clear hfz11_2
    try clear hfz17_0
    try clear hfz17_1
    try clear hfz17_2
    try clear hfz23_0
    try clear hfz23_1
    try clear hfz23_2
    try clear hfz24_0
    try clear hfz24_1
    try clear hfz24_2
    try clear hfz27_0
    try clear hfz27_1
    try clear hfz27_2
    try clear hfz28_0
    try clear hfz28_1
    try clear hfz28_2
    obtain ⟨kq, x43_7, rfl, HA, HJ7, HO_721001, HO_721002, HO_730001, HO_730002, BK720, BK729, HB⟩ := hcut
    cases kq with
    | zero => exact absurd HA.out (by simp [laws_FnExactSignAt.j0])
    | succ kj7 =>
     have H := HA.out
     clear HA
     simp only [laws_FnExactSignAt.j0] at H
     by_cases c30 : x43_7 = true
     ·subst c30
      have H1 : (none) = some r := by rw [if_pos rfl] at H; exact H
      clear H
      have H := H1
      clear H1
      exact absurd H (by simp)
     ·replace c30 := Bool.eq_false_iff.mpr c30
      subst c30
      have H1 : ((laws_markSig.f kj7 t721 t722 t725 1).bind fun bt731 => ((laws_heldSig.f kj7 t721 bt731.2.1 bt731.2.2 1).bind fun t734 => (if t734 < 0 then (none) else (if t734 = bt731.1 then ((impl_SignAt.f kj7 a0 a1 a2).bind fun bt735 => ((laws_eqSig.f kj7 bt735.1 bt735.2.1 bt735.2.2.1 t712 t713 t716).bind fun t744 => (if t744 = true then (laws_FnExactSignAt.j1 kj7 bt731.1 (bt735.2.2.2 != t719) t721 bt731.2.1 bt731.2.2) else (laws_FnExactSignAt.j1 kj7 bt731.1 true t721 bt731.2.1 bt731.2.2)))) else (none))))) = some r := by rw [if_neg (show ¬ (false = true) by decide)] at H; exact H
      clear H
      have H := H1
      clear H1
      replace H := Option.bind_eq_some_iff.mp H
      obtain ⟨⟨t731, t732, t733⟩, A310, H⟩ := H
      replace H : ((laws_heldSig.f kj7 t721 t732 t733 1).bind fun t734 => (if t734 < 0 then (none) else (if t734 = t731 then ((impl_SignAt.f kj7 a0 a1 a2).bind fun bt735 => ((laws_eqSig.f kj7 bt735.1 bt735.2.1 bt735.2.2.1 t712 t713 t716).bind fun t744 => (if t744 = true then (laws_FnExactSignAt.j1 kj7 t731 (bt735.2.2.2 != t719) t721 t732 t733) else (laws_FnExactSignAt.j1 kj7 t731 true t721 t732 t733)))) else (none)))) = some r := H
      have A31 := Aside0.mk A310
      clear A310
      replace H := Option.bind_eq_some_iff.mp H
      obtain ⟨t734, A320, H⟩ := H
      replace H : (if t734 < 0 then (none) else (if t734 = t731 then ((impl_SignAt.f kj7 a0 a1 a2).bind fun bt735 => ((laws_eqSig.f kj7 bt735.1 bt735.2.1 bt735.2.2.1 t712 t713 t716).bind fun t744 => (if t744 = true then (laws_FnExactSignAt.j1 kj7 t731 (bt735.2.2.2 != t719) t721 t732 t733) else (laws_FnExactSignAt.j1 kj7 t731 true t721 t732 t733)))) else (none))) = some r := H
      have A32 := Aside0.mk A320
      clear A320
      by_cases c33 : t734 < 0
      ·rw [if_pos c33] at H
       exact absurd H (by simp)
      ·rw [if_neg c33] at H
       have c33b0 : decide (t734 < 0) = false := decide_eq_false c33
       clear c33
       by_cases c34 : t734 = t731
       ·rw [if_pos c34] at H
        have c34b0 : (t734 == t731) = true := beq_iff_eq.mpr c34
        have c34b1 : (t734 != t731) = false := bne_eq_false_iff_eq.mpr c34
        clear c34
        replace H := Option.bind_eq_some_iff.mp H
        obtain ⟨⟨t735, t736, t739, t742⟩, A350, H⟩ := H
        replace H : ((laws_eqSig.f kj7 t735 t736 t739 t712 t713 t716).bind fun t744 => (if t744 = true then (laws_FnExactSignAt.j1 kj7 t731 (t742 != t719) t721 t732 t733) else (laws_FnExactSignAt.j1 kj7 t731 true t721 t732 t733))) = some r := H
        have A35 := Aside0.mk A350
        clear A350
        have HC36 := Aside0.mk H
        clear H
        have hnb37 := NB729_720.out
        have hnc37 := NB720_729.out
        have hcz38_0 : wc.cell? ⟨gb729, 0, none⟩ = some (.int .i64 t721) := (blk_cell BK729.out 0).trans rfl
        have hcz38_1 : wc.cell? ⟨gb729, 1, none⟩ = some (.slice Ao18 t722.length co18) := (blk_cell BK729.out 1).trans rfl
        have hcz38_2 : wc.cell? ⟨gb729, 2, none⟩ = some (.slice Ao19 t725.length co19) := (blk_cell BK729.out 2).trans rfl
        have hfz38_0 := blk_frozen BK729.out 0
        have hfz38_1 := blk_frozen BK729.out 1
        have hfz38_2 := blk_frozen BK729.out 2
        go_upto_region 18 with (first | ((with_reducible refine gate_callee (f := 40) rfl ?_); refine goesL_ (some 46) rfl rfl Tryd.func40 (by kernel_rfl) rfl #[.agg #[.int .i64 t721, .slice Ao18 t722.length co18, .slice Ao19 t725.length co19], .int .i64 1] rfl (by (try simp only [List.map_toArray, List.map_cons, List.map_nil]); first | done | rfl | (simp only [List.length_drop, List.length_take]; rfl)) ?_; (with_reducible refine (laws_markSig.calls kj7 t721 (fun k_ => some k_ = (.slice Ao18 t722.length co18 : Value).ownBlock) (.slice Ao18 t722.length co18) t722 (fun k_ => some k_ = (.slice Ao19 t725.length co19 : Value).ownBlock) (.slice Ao19 t725.length co19) t725 1 t731 t732 t733 w _ ?side1 ?side2 ?side3 ?side4 ?side5 A31.out).mono ?_); (case side1 => repeat (first | (with_reducible first | exact HB.out | apply below_alloc | apply pw_below_drewN | apply below_drew1 | refine below_set ?_ GE720.out | refine below_set ?_ GE729.out) | exact HB.out)); (case side2 => exact Kd.R_tight rfl HO_730001.out); (case side3 => exact fun k_ e_ => (HO_730001.out.1 k_ e_.symm).2.2); (case side4 => exact Kd.R_tight rfl HO_730002.out); (case side5 => exact fun k_ e_ => (HO_730002.out.1 k_ e_.symm).2.2); rintro e w39 ⟨rfl, hy0, hy1, hb, hkp⟩; refine ⟨_, rfl, ?_⟩; have n0_ := Aside0.mk (Kd.R_mono (ok' := fun k_ => some k_ ≠ (.slice Ao13 t716.length co13 : Value).ownBlock ∧ some k_ ≠ (.slice Ao18 t722.length co18 : Value).ownBlock ∧ some k_ ≠ (.slice Ao19 t725.length co19 : Value).ownBlock) (Kd.R_keptB (HO_721001.out) hkp (fun k_ hk_ hs_ => Or.elim hs_ (fun e_ => (hk_.2.1) e_) (fun e_ => (hk_.2.2) e_))) (fun k_ hk_ => ⟨hk_.1.1, hk_.1.2.1, hk_.1.2.2⟩)); have n1_ := Aside0.mk (Kd.R_mono (ok' := fun k_ => some k_ ≠ (.slice Ao12 t713.length co12 : Value).ownBlock ∧ some k_ ≠ (.slice Ao18 t722.length co18 : Value).ownBlock ∧ some k_ ≠ (.slice Ao19 t725.length co19 : Value).ownBlock) (Kd.R_keptB (HO_721002.out) hkp (fun k_ hk_ hs_ => Or.elim hs_ (fun e_ => (hk_.2.1) e_) (fun e_ => (hk_.2.2) e_))) (fun k_ hk_ => ⟨hk_.1.1, hk_.1.2.1, hk_.1.2.2⟩)); have n2_ := Aside0.mk (Kd.R_reok rfl hy0 (fun k_ e_ => HO_730001.out.1 k_ e_)); have n3_ := Aside0.mk (Kd.R_reok rfl hy1 (fun k_ e_ => HO_730002.out.1 k_ e_)); have n4_ := Aside0.mk (blk_kept (by (with_reducible repeat (first | refine blk_drewN ?_ _ | refine blk_drew ?_ | refine blk_alloc ?_ _)); exact BK720.out) hkp (fun hs_ => Or.elim hs_ (fun e_ => (fun e_ => (Kd.R_ne HO_730001.out BK720.out (by decide)) e_) e_) (fun e_ => (fun e_ => (Kd.R_ne HO_730002.out BK720.out (by decide)) e_) e_))); have n5_ := Aside0.mk (blk_kept (by (with_reducible repeat (first | refine blk_drewN ?_ _ | refine blk_drew ?_ | refine blk_alloc ?_ _)); exact BK729.out) hkp (fun hs_ => Or.elim hs_ (fun e_ => (fun e_ => (Kd.R_ne HO_730001.out BK729.out (by decide)) e_) e_) (fun e_ => (fun e_ => (Kd.R_ne HO_730002.out BK729.out (by decide)) e_) e_))); have n6_ := Aside0.mk (hb); clear HO_721001; clear HO_721002; clear HO_730001; clear HO_730002; clear BK720; clear BK729; clear HB; have HO_721001 := n0_; have HO_721002 := n1_; have HO_730001 := n2_; have HO_730002 := n3_; have BK720 := n4_; have BK729 := n5_; have HB := n6_; clear n0_ n1_ n2_ n3_ n4_ n5_ n6_; (try clear hb); (try clear hkp); (try clear hy0); (try clear hy1); have hcz40_0 : w39.cell? ⟨gb729, 0, none⟩ = some (.int .i64 t721) := (blk_cell BK729.out 0).trans rfl; have hcz40_1 : w39.cell? ⟨gb729, 1, none⟩ = some (.slice Ao18 t722.length co18) := (blk_cell BK729.out 1).trans rfl; have hcz40_2 : w39.cell? ⟨gb729, 2, none⟩ = some (.slice Ao19 t725.length co19) := (blk_cell BK729.out 2).trans rfl; have hfz40_0 := blk_frozen BK729.out 0; have hfz40_1 := blk_frozen BK729.out 1; have hfz40_2 := blk_frozen BK729.out 2) | ((with_reducible refine gate_callee (f := 41) rfl ?_); refine goesL_ (some 49) rfl rfl Tryd.func41 (by kernel_rfl) rfl #[.agg #[.int .i64 t721, .slice Ao18 t732.length co18, .slice Ao19 t733.length co19], .int .i64 1] rfl (by (try simp only [List.map_toArray, List.map_cons, List.map_nil]); first | done | (rw [show t732.length = t722.length from (Kd.R_reads' HO_730001.out).1.symm, show t733.length = t725.length from (Kd.R_reads' HO_730002.out).1.symm] <;> rfl) | rfl | (simp only [List.length_drop, List.length_take]; rfl)) ?_; (with_reducible refine (laws_heldSig.calls kj7 t721 _ _ t732 _ _ t733 1 t734 _ ?side1 ?side2 ?side3 ?side4 A32.out).mono ?_); (case side1 => repeat (first | exact (Kd.R_reads' HO_730001.out).2.2 | (with_reducible refine Kd.C_alloc ?_ _) | (with_reducible refine Kd.C_drewN ?_ _) | (with_reducible refine Kd.C_drew ?_))); (case side2 => rw [show t732.length = t722.length from (Kd.R_reads' HO_730001.out).1.symm]; exact (Kd.R_reads' HO_730001.out).2.1); (case side3 => repeat (first | exact (Kd.R_reads' HO_730002.out).2.2 | (with_reducible refine Kd.C_alloc ?_ _) | (with_reducible refine Kd.C_drewN ?_ _) | (with_reducible refine Kd.C_drew ?_))); (case side4 => rw [show t733.length = t725.length from (Kd.R_reads' HO_730002.out).1.symm]; exact (Kd.R_reads' HO_730002.out).2.1); rintro e w41 ⟨rfl, hb⟩; refine ⟨_, rfl, ?_⟩; have n0_ := Aside0.mk (Kd.R_below (by (with_reducible repeat (first | apply Kd.R_alloc | apply Kd.R_drewN | apply Kd.R_drew)); exact HO_721001.out) hb); have n1_ := Aside0.mk (Kd.R_below (by (with_reducible repeat (first | apply Kd.R_alloc | apply Kd.R_drewN | apply Kd.R_drew)); exact HO_721002.out) hb); have n2_ := Aside0.mk (Kd.R_below (by (with_reducible repeat (first | apply Kd.R_alloc | apply Kd.R_drewN | apply Kd.R_drew)); exact HO_730001.out) hb); have n3_ := Aside0.mk (Kd.R_below (by (with_reducible repeat (first | apply Kd.R_alloc | apply Kd.R_drewN | apply Kd.R_drew)); exact HO_730002.out) hb); have n4_ := Aside0.mk (blk_below (g := gb720) (o := .cells #[.int .i64 t712, .slice Ao12 t713.length co12, .slice Ao13 t716.length co13] 42 (0, 0)) (by (with_reducible repeat (first | refine blk_drewN ?_ _ | refine blk_drew ?_ | refine blk_alloc ?_ _)); exact BK720.out) hb); have n5_ := Aside0.mk (blk_below (g := gb729) (o := .cells #[.int .i64 t721, .slice Ao18 t722.length co18, .slice Ao19 t725.length co19] 42 (0, 0)) (by (with_reducible repeat (first | refine blk_drewN ?_ _ | refine blk_drew ?_ | refine blk_alloc ?_ _)); exact BK729.out) hb); have n6_ := Aside0.mk (below_step (by repeat (first | (with_reducible first | exact HB.out | apply below_alloc | apply pw_below_drewN | apply below_drew1 | refine below_set ?_ GE720.out | refine below_set ?_ GE729.out) | exact HB.out)) hb); clear HO_721001; clear HO_721002; clear HO_730001; clear HO_730002; clear BK720; clear BK729; clear HB; have HO_721001 := n0_; have HO_721002 := n1_; have HO_730001 := n2_; have HO_730002 := n3_; have BK720 := n4_; have BK729 := n5_; have HB := n6_; clear n0_ n1_ n2_ n3_ n4_ n5_ n6_; (try clear hb); (try clear hb2); (try clear hk); (try clear hi)) | ((with_reducible refine gate_callee (f := 39) rfl ?_); refine goesL_ (some 59) rfl rfl Tryd.func39 (by kernel_rfl) rfl #[.string a0, .int .i64 a1, .string a2] rfl (by (try simp only [List.map_toArray, List.map_cons, List.map_nil]); first | done | rfl | (simp only [List.length_drop, List.length_take]; rfl)) ?_; (with_reducible refine (impl_SignAt.calls kj7 a0 a1 a2 t735 t736 t739 t742 _ A35.out (HLD.out.below HLD.out.pos (by repeat (first | (with_reducible first | exact HB.out | apply below_alloc | apply pw_below_drewN | apply below_drew1 | refine below_set ?_ GE720.out | refine below_set ?_ GE729.out | refine below_set ?_ GE743.out) | exact HB.out)))).mono ?_); rintro e w42 ⟨v737, v740, rfl, ho0, ho1, hb⟩; refine ⟨_, rfl, ?_⟩; have n0_ := Aside0.mk (Kd.R_mono (Kd.R_told (Kd.R_told (Kd.R_old (by (with_reducible repeat (first | apply Kd.R_alloc | apply Kd.R_drewN | apply Kd.R_drew)); exact HO_721001.out) hb) (Kd.R_base ho0)) (Kd.R_base ho1)) (fun _ h_ => h_.1)); have n1_ := Aside0.mk (Kd.R_mono (Kd.R_told (Kd.R_told (Kd.R_old (by (with_reducible repeat (first | apply Kd.R_alloc | apply Kd.R_drewN | apply Kd.R_drew)); exact HO_721002.out) hb) (Kd.R_base ho0)) (Kd.R_base ho1)) (fun _ h_ => h_.1)); have n2_ := Aside0.mk (Kd.R_mono (Kd.R_told (Kd.R_told (Kd.R_old (by (with_reducible repeat (first | apply Kd.R_alloc | apply Kd.R_drewN | apply Kd.R_drew)); exact HO_730001.out) hb) (Kd.R_base ho0)) (Kd.R_base ho1)) (fun _ h_ => h_.1)); have n3_ := Aside0.mk (Kd.R_mono (Kd.R_told (Kd.R_told (Kd.R_old (by (with_reducible repeat (first | apply Kd.R_alloc | apply Kd.R_drewN | apply Kd.R_drew)); exact HO_730002.out) hb) (Kd.R_base ho0)) (Kd.R_base ho1)) (fun _ h_ => h_.1)); have n4_ := Aside0.mk (Kd.R_lower (Kd.R_new' (Kd.R_new' (Kd.R_new' (Kd.R_new' ho0 (Kd.R_lt (by (with_reducible repeat (first | apply Kd.R_alloc | apply Kd.R_drewN | apply Kd.R_drew)); exact HO_721001.out))) (Kd.R_lt (by (with_reducible repeat (first | apply Kd.R_alloc | apply Kd.R_drewN | apply Kd.R_drew)); exact HO_721002.out))) (Kd.R_lt (by (with_reducible repeat (first | apply Kd.R_alloc | apply Kd.R_drewN | apply Kd.R_drew)); exact HO_730001.out))) (Kd.R_lt (by (with_reducible repeat (first | apply Kd.R_alloc | apply Kd.R_drewN | apply Kd.R_drew)); exact HO_730002.out))) (below_size (by repeat (first | (with_reducible first | exact HB.out | apply below_alloc | apply pw_below_drewN | apply below_drew1 | refine below_set ?_ GE720.out | refine below_set ?_ GE729.out) | exact HB.out)))); have n5_ := Aside0.mk (Kd.R_lower (Kd.R_new' (Kd.R_new' (Kd.R_new' (Kd.R_new' ho1 (Kd.R_lt (by (with_reducible repeat (first | apply Kd.R_alloc | apply Kd.R_drewN | apply Kd.R_drew)); exact HO_721001.out))) (Kd.R_lt (by (with_reducible repeat (first | apply Kd.R_alloc | apply Kd.R_drewN | apply Kd.R_drew)); exact HO_721002.out))) (Kd.R_lt (by (with_reducible repeat (first | apply Kd.R_alloc | apply Kd.R_drewN | apply Kd.R_drew)); exact HO_730001.out))) (Kd.R_lt (by (with_reducible repeat (first | apply Kd.R_alloc | apply Kd.R_drewN | apply Kd.R_drew)); exact HO_730002.out))) (below_size (by repeat (first | (with_reducible first | exact HB.out | apply below_alloc | apply pw_below_drewN | apply below_drew1 | refine below_set ?_ GE720.out | refine below_set ?_ GE729.out) | exact HB.out)))); have n6_ := Aside0.mk (blk_below (g := gb720) (o := .cells #[.int .i64 t712, .slice Ao12 t713.length co12, .slice Ao13 t716.length co13] 42 (0, 0)) (by (with_reducible repeat (first | refine blk_drewN ?_ _ | refine blk_drew ?_ | refine blk_alloc ?_ _)); exact BK720.out) hb); have n7_ := Aside0.mk (blk_below (g := gb729) (o := .cells #[.int .i64 t721, .slice Ao18 t722.length co18, .slice Ao19 t725.length co19] 42 (0, 0)) (by (with_reducible repeat (first | refine blk_drewN ?_ _ | refine blk_drew ?_ | refine blk_alloc ?_ _)); exact BK729.out) hb); have n8_ := Aside0.mk (below_step (by repeat (first | (with_reducible first | exact HB.out | apply below_alloc | apply pw_below_drewN | apply below_drew1 | refine below_set ?_ GE720.out | refine below_set ?_ GE729.out) | exact HB.out)) hb); clear HO_721001; clear HO_721002; clear HO_730001; clear HO_730002; clear BK720; clear BK729; clear HB; have HO_721001 := n0_; have HO_721002 := n1_; have HO_730001 := n2_; have HO_730002 := n3_; have HO738 := n4_; have HO741 := n5_; have BK720 := n6_; have BK729 := n7_; have HB := n8_; clear n0_ n1_ n2_ n3_ n4_ n5_ n6_ n7_ n8_; (try clear hb); (try clear hb2); (try clear hk); (try clear hi); (try clear ho0); (try clear ho1)) | ((with_reducible refine gate_dst (N := 13) rfl ?_); refine box_event ?hg (N := 13) ?hd (cs := #[.int .i64 0, .slice none 0 0, .slice none 0 0]) (t := 42) ?hr ?_; (case hd => rfl); (case hg => rfl); (case hr => first | (go_simp; done) | (go_simp; rfl)); intro gb743 hg w43 hbox hb; have n0_ := Aside0.mk (Kd.R_below (by (with_reducible repeat (first | apply Kd.R_alloc | apply Kd.R_drewN | apply Kd.R_drew)); exact HO_721001.out) hb); have n1_ := Aside0.mk (Kd.R_below (by (with_reducible repeat (first | apply Kd.R_alloc | apply Kd.R_drewN | apply Kd.R_drew)); exact HO_721002.out) hb); have n2_ := Aside0.mk (Kd.R_below (by (with_reducible repeat (first | apply Kd.R_alloc | apply Kd.R_drewN | apply Kd.R_drew)); exact HO_730001.out) hb); have n3_ := Aside0.mk (Kd.R_below (by (with_reducible repeat (first | apply Kd.R_alloc | apply Kd.R_drewN | apply Kd.R_drew)); exact HO_730002.out) hb); have n4_ := Aside0.mk (Kd.R_below (by (with_reducible repeat (first | apply Kd.R_alloc | apply Kd.R_drewN | apply Kd.R_drew)); exact HO738.out) hb); have n5_ := Aside0.mk (Kd.R_below (by (with_reducible repeat (first | apply Kd.R_alloc | apply Kd.R_drewN | apply Kd.R_drew)); exact HO741.out) hb); have n6_ := Aside0.mk (blk_below (g := gb720) (o := .cells #[.int .i64 t712, .slice Ao12 t713.length co12, .slice Ao13 t716.length co13] 42 (0, 0)) (by (with_reducible repeat (first | refine blk_drewN ?_ _ | refine blk_drew ?_ | refine blk_alloc ?_ _)); exact BK720.out) hb); have n7_ := Aside0.mk (blk_below (g := gb729) (o := .cells #[.int .i64 t721, .slice Ao18 t722.length co18, .slice Ao19 t725.length co19] 42 (0, 0)) (by (with_reducible repeat (first | refine blk_drewN ?_ _ | refine blk_drew ?_ | refine blk_alloc ?_ _)); exact BK729.out) hb); have n8_ := Aside0.mk (below_step (by repeat (first | (with_reducible first | exact HB.out | apply below_alloc | apply pw_below_drewN | apply below_drew1 | refine below_set ?_ GE720.out | refine below_set ?_ GE729.out) | exact HB.out)) hb); have n9_ := Aside0.mk (hbox); have n10_ := Aside0.mk ((by rw [hg]; exact (below_size (by repeat (first | (with_reducible first | exact HB.out | apply below_alloc | apply pw_below_drewN | apply below_drew1 | refine below_set ?_ GE720.out | refine below_set ?_ GE729.out) | exact HB.out))) : w.heap.size ≤ gb743)); have n11_ := Aside0.mk ((by rw [hg]; exact (below_size (by repeat (first | (with_reducible first | exact HB.out | apply below_alloc | apply pw_below_drewN | apply below_drew1 | refine below_set ?_ GE720.out | refine below_set ?_ GE729.out) | exact HB.out))) : w.heap.size ≤ gb743)); have n12_ := Aside0.mk ((by rw [hg]; exact Nat.ne_of_lt (blk_lt (g := gb720) (o := .cells #[.int .i64 t712, .slice Ao12 t713.length co12, .slice Ao13 t716.length co13] 42 (0, 0)) (by (with_reducible repeat (first | refine blk_drewN ?_ _ | refine blk_drew ?_ | refine blk_alloc ?_ _)); exact BK720.out)) : gb720 ≠ gb743)); have n13_ := Aside0.mk ((by rw [hg]; exact Nat.ne_of_gt (blk_lt (g := gb720) (o := .cells #[.int .i64 t712, .slice Ao12 t713.length co12, .slice Ao13 t716.length co13] 42 (0, 0)) (by (with_reducible repeat (first | refine blk_drewN ?_ _ | refine blk_drew ?_ | refine blk_alloc ?_ _)); exact BK720.out)) : gb743 ≠ gb720)); have n14_ := Aside0.mk ((by rw [hg]; exact Nat.ne_of_lt (blk_lt (g := gb729) (o := .cells #[.int .i64 t721, .slice Ao18 t722.length co18, .slice Ao19 t725.length co19] 42 (0, 0)) (by (with_reducible repeat (first | refine blk_drewN ?_ _ | refine blk_drew ?_ | refine blk_alloc ?_ _)); exact BK729.out)) : gb729 ≠ gb743)); have n15_ := Aside0.mk ((by rw [hg]; exact Nat.ne_of_gt (blk_lt (g := gb729) (o := .cells #[.int .i64 t721, .slice Ao18 t722.length co18, .slice Ao19 t725.length co19] 42 (0, 0)) (by (with_reducible repeat (first | refine blk_drewN ?_ _ | refine blk_drew ?_ | refine blk_alloc ?_ _)); exact BK729.out)) : gb743 ≠ gb729)); clear HO_721001; clear HO_721002; clear HO_730001; clear HO_730002; clear HO738; clear HO741; clear BK720; clear BK729; clear HB; have HO_721001 := n0_; have HO_721002 := n1_; have HO_730001 := n2_; have HO_730002 := n3_; have HO738 := n4_; have HO741 := n5_; have BK720 := n6_; have BK729 := n7_; have HB := n8_; have BK743 := n9_; have GW743 := n10_; have GE743 := n11_; have NB720_743 := n12_; have NB743_720 := n13_; have NB729_743 := n14_; have NB743_729 := n15_; clear n0_ n1_ n2_ n3_ n4_ n5_ n6_ n7_ n8_ n9_ n10_ n11_ n12_ n13_ n14_ n15_; clear hb hbox hg; have hnb44 := NB743_720.out; have hnc44 := NB720_743.out; have hnb45 := NB743_729.out; have hnc45 := NB729_743.out; have hcz46_0 : w43.cell? ⟨gb743, 0, none⟩ = some (.int .i64 0) := (blk_cell BK743.out 0).trans rfl; have hcz46_1 : w43.cell? ⟨gb743, 1, none⟩ = some (.slice none 0 0) := (blk_cell BK743.out 1).trans rfl; have hcz46_2 : w43.cell? ⟨gb743, 2, none⟩ = some (.slice none 0 0) := (blk_cell BK743.out 2).trans rfl; have hfz46_0 := blk_frozen BK743.out 0; have hfz46_1 := blk_frozen BK743.out 1; have hfz46_2 := blk_frozen BK743.out 2; obtain ⟨Ao47, co47, eo47⟩ := Kd.R_slice HO738.out; subst eo47; obtain ⟨Ao48, co48, eo48⟩ := Kd.R_slice HO741.out; subst eo48))
        (try simp only [Act.put, List.setIfInBounds_toArray, List.set_cons_zero, List.set_cons_succ])
        go_cut [70] (fun v70 wc => ∃ (kq : Nat) (x70_35 : Bool), v70 = .bool x70_35 ∧ Aside0 (laws_FnExactSignAt.j1 kq t731 x70_35 t721 t732 t733 = some r) ∧ Aside0 (kq ≤ kj7) ∧ Aside0 (Kd.R Kd.string 9 wc w.heap.size (fun k_ => some k_ ≠ ((.slice Ao13 t716.length co13) : Value).ownBlock ∧ some k_ ≠ ((.slice Ao18 t722.length co18) : Value).ownBlock ∧ some k_ ≠ ((.slice Ao19 t725.length co19) : Value).ownBlock ∧ some k_ ≠ ((.slice Ao47 t736.length co47) : Value).ownBlock ∧ some k_ ≠ ((.slice Ao48 t739.length co48) : Value).ownBlock) (.slice Ao12 t713.length co12) t713) ∧ Aside0 (Kd.R Kd.string 9 wc w.heap.size (fun k_ => some k_ ≠ ((.slice Ao12 t713.length co12) : Value).ownBlock ∧ some k_ ≠ ((.slice Ao18 t722.length co18) : Value).ownBlock ∧ some k_ ≠ ((.slice Ao19 t725.length co19) : Value).ownBlock ∧ some k_ ≠ ((.slice Ao47 t736.length co47) : Value).ownBlock ∧ some k_ ≠ ((.slice Ao48 t739.length co48) : Value).ownBlock) (.slice Ao13 t716.length co13) t716) ∧ Aside0 (Kd.R Kd.string 9 wc w.heap.size (fun k_ => some k_ ≠ ((.slice Ao12 t713.length co12) : Value).ownBlock ∧ some k_ ≠ ((.slice Ao13 t716.length co13) : Value).ownBlock ∧ some k_ ≠ ((.slice Ao19 t725.length co19) : Value).ownBlock ∧ some k_ ≠ ((.slice Ao47 t736.length co47) : Value).ownBlock ∧ some k_ ≠ ((.slice Ao48 t739.length co48) : Value).ownBlock) (.slice Ao18 t722.length co18) t732) ∧ Aside0 (Kd.R Kd.string 9 wc w.heap.size (fun k_ => some k_ ≠ ((.slice Ao12 t713.length co12) : Value).ownBlock ∧ some k_ ≠ ((.slice Ao13 t716.length co13) : Value).ownBlock ∧ some k_ ≠ ((.slice Ao18 t722.length co18) : Value).ownBlock ∧ some k_ ≠ ((.slice Ao47 t736.length co47) : Value).ownBlock ∧ some k_ ≠ ((.slice Ao48 t739.length co48) : Value).ownBlock) (.slice Ao19 t725.length co19) t733) ∧ Aside0 (Kd.R Kd.string 9 wc w.heap.size (fun k_ => some k_ ≠ ((.slice Ao12 t713.length co12) : Value).ownBlock ∧ some k_ ≠ ((.slice Ao13 t716.length co13) : Value).ownBlock ∧ some k_ ≠ ((.slice Ao18 t722.length co18) : Value).ownBlock ∧ some k_ ≠ ((.slice Ao19 t725.length co19) : Value).ownBlock ∧ some k_ ≠ ((.slice Ao48 t739.length co48) : Value).ownBlock) (.slice Ao47 t736.length co47) t736) ∧ Aside0 (Kd.R Kd.string 9 wc w.heap.size (fun k_ => some k_ ≠ ((.slice Ao12 t713.length co12) : Value).ownBlock ∧ some k_ ≠ ((.slice Ao13 t716.length co13) : Value).ownBlock ∧ some k_ ≠ ((.slice Ao18 t722.length co18) : Value).ownBlock ∧ some k_ ≠ ((.slice Ao19 t725.length co19) : Value).ownBlock ∧ some k_ ≠ ((.slice Ao47 t736.length co47) : Value).ownBlock) (.slice Ao48 t739.length co48) t739) ∧ Aside0 (wc.heap[gb720]? = some (.cells #[.int .i64 t712, (.slice Ao12 t713.length co12), (.slice Ao13 t716.length co13)] 42 (0, 0))) ∧ Aside0 (wc.heap[gb729]? = some (.cells #[.int .i64 t721, (.slice Ao18 t722.length co18), (.slice Ao19 t725.length co19)] 42 (0, 0))) ∧ Aside0 (wc.heap[gb743]? = some (.cells #[.int .i64 t735, (.slice Ao47 t736.length co47), (.slice Ao48 t739.length co48)] 42 (0, 0))) ∧ Aside0 (Below w.heap.size w wc))
        case first =>
         have H := HC36.out
         clear HC36
         replace H := Option.bind_eq_some_iff.mp H
         obtain ⟨t744, A490, H⟩ := H
         replace H : (if t744 = true then (laws_FnExactSignAt.j1 kj7 t731 (t742 != t719) t721 t732 t733) else (laws_FnExactSignAt.j1 kj7 t731 true t721 t732 t733)) = some r := H
         have A49 := Aside0.mk A490
         clear A490
         by_cases c50 : t744 = true
         ·subst c50
          have H1 : (laws_FnExactSignAt.j1 kj7 t731 (t742 != t719) t721 t732 t733) = some r := by rw [if_pos rfl] at H; exact H
          clear H
          have H := H1
          clear H1
          have H' := Aside0.mk H
          clear H
          have hnb51 := NB743_720.out
          have hnc51 := NB720_743.out
          have hnb52 := NB743_729.out
          have hnc52 := NB729_743.out
          have hcz53_0 : w43.cell? ⟨gb743, 0, none⟩ = some (.int .i64 0) := (blk_cell BK743.out 0).trans rfl
          have hcz53_1 : w43.cell? ⟨gb743, 1, none⟩ = some (.slice none 0 0) := (blk_cell BK743.out 1).trans rfl
          have hcz53_2 : w43.cell? ⟨gb743, 2, none⟩ = some (.slice none 0 0) := (blk_cell BK743.out 2).trans rfl
          have hfz53_0 := blk_frozen BK743.out 0
          have hfz53_1 := blk_frozen BK743.out 1
          have hfz53_2 := blk_frozen BK743.out 2
          have hnb54 := NB720_729.out
          have hnc54 := NB729_720.out
          have hcz55_0 : w43.cell? ⟨gb720, 0, none⟩ = some (.int .i64 t712) := (blk_cell BK720.out 0).trans rfl
          have hcz55_1 : w43.cell? ⟨gb720, 1, none⟩ = some (.slice Ao12 t713.length co12) := (blk_cell BK720.out 1).trans rfl
          have hcz55_2 : w43.cell? ⟨gb720, 2, none⟩ = some (.slice Ao13 t716.length co13) := (blk_cell BK720.out 2).trans rfl
          have hfz55_0 := blk_frozen BK720.out 0
          have hfz55_1 := blk_frozen BK720.out 1
          have hfz55_2 := blk_frozen BK720.out 2
          go_wp2_with (first | ((with_reducible refine gate_callee (f := 32) rfl ?_); refine goesL_ (some 64) rfl rfl Tryd.func32 (by kernel_rfl) rfl #[.agg #[.int .i64 t735, .slice Ao47 t736.length co47, .slice Ao48 t739.length co48], .agg #[.int .i64 t712, .slice Ao12 t713.length co12, .slice Ao13 t716.length co13]] rfl (by (try simp only [List.map_toArray, List.map_cons, List.map_nil]); first | done | rfl | (simp only [List.length_drop, List.length_take]; rfl)) ?_; (with_reducible refine (laws_eqSig.calls kj7 t735 _ _ t736 _ _ t739 t712 _ _ t713 _ _ t716 true _ ?side1 ?side2 ?side3 ?side4 ?side5 ?side6 ?side7 ?side8 A49.out).mono ?_); (case side1 => refine (Kd.R_reads' (e := 9) (base := w.heap.size) (ok := fun k_ => ((((some k_ ≠ (.slice Ao48 t739.length co48 : Value).ownBlock ∧ some k_ ≠ (.slice Ao12 t713.length co12 : Value).ownBlock) ∧ some k_ ≠ (.slice Ao13 t716.length co13 : Value).ownBlock) ∧ some k_ ≠ (.slice Ao18 t722.length co18 : Value).ownBlock) ∧ some k_ ≠ (.slice Ao19 t725.length co19 : Value).ownBlock)) (n := t736.length) (c := co47) ?_).2.2; exact (by (with_reducible repeat (first | apply Kd.R_alloc | apply Kd.R_drewN | apply Kd.R_drew)); exact (Kd.R_mono (Kd.R_far (p := ⟨gb743, 2, none⟩) (Kd.R_far (p := ⟨gb743, 1, none⟩) (Kd.R_far (p := ⟨gb743, 0, none⟩) (Kd.R_types HO738.out BK743.out (by decide)) (fun _ hk => hk.2) (.int .i64 t735)) (fun _ hk => hk.2) (.slice Ao47 t736.length co47)) (fun _ hk => hk.2) (.slice Ao48 t739.length co48)) (fun _ h_ => h_.1)))); (case side2 => exact (Kd.R_reads' HO738.out).2.1); (case side3 => refine (Kd.R_reads' (e := 9) (base := w.heap.size) (ok := fun k_ => ((((some k_ ≠ (.slice Ao47 t736.length co47 : Value).ownBlock ∧ some k_ ≠ (.slice Ao12 t713.length co12 : Value).ownBlock) ∧ some k_ ≠ (.slice Ao13 t716.length co13 : Value).ownBlock) ∧ some k_ ≠ (.slice Ao18 t722.length co18 : Value).ownBlock) ∧ some k_ ≠ (.slice Ao19 t725.length co19 : Value).ownBlock)) (n := t739.length) (c := co48) ?_).2.2; exact (by (with_reducible repeat (first | apply Kd.R_alloc | apply Kd.R_drewN | apply Kd.R_drew)); exact (Kd.R_mono (Kd.R_far (p := ⟨gb743, 2, none⟩) (Kd.R_far (p := ⟨gb743, 1, none⟩) (Kd.R_far (p := ⟨gb743, 0, none⟩) (Kd.R_types HO741.out BK743.out (by decide)) (fun _ hk => hk.2) (.int .i64 t735)) (fun _ hk => hk.2) (.slice Ao47 t736.length co47)) (fun _ hk => hk.2) (.slice Ao48 t739.length co48)) (fun _ h_ => h_.1)))); (case side4 => exact (Kd.R_reads' HO741.out).2.1); (case side5 => refine (Kd.R_reads' (e := 9) (base := w.heap.size) (ok := fun k_ => (((some k_ ≠ (.slice Ao13 t716.length co13 : Value).ownBlock ∧ (some k_ ≠ (.slice Ao18 t722.length co18 : Value).ownBlock ∧ some k_ ≠ (.slice Ao19 t725.length co19 : Value).ownBlock)) ∧ some k_ ≠ (.slice Ao47 t736.length co47 : Value).ownBlock) ∧ some k_ ≠ (.slice Ao48 t739.length co48 : Value).ownBlock)) (n := t713.length) (c := co12) ?_).2.2; exact (by (with_reducible repeat (first | apply Kd.R_alloc | apply Kd.R_drewN | apply Kd.R_drew)); exact (Kd.R_mono (Kd.R_far (p := ⟨gb743, 2, none⟩) (Kd.R_far (p := ⟨gb743, 1, none⟩) (Kd.R_far (p := ⟨gb743, 0, none⟩) (Kd.R_types HO_721001.out BK743.out (by decide)) (fun _ hk => hk.2) (.int .i64 t735)) (fun _ hk => hk.2) (.slice Ao47 t736.length co47)) (fun _ hk => hk.2) (.slice Ao48 t739.length co48)) (fun _ h_ => h_.1)))); (case side6 => exact (Kd.R_reads' HO_721001.out).2.1); (case side7 => refine (Kd.R_reads' (e := 9) (base := w.heap.size) (ok := fun k_ => (((some k_ ≠ (.slice Ao12 t713.length co12 : Value).ownBlock ∧ (some k_ ≠ (.slice Ao18 t722.length co18 : Value).ownBlock ∧ some k_ ≠ (.slice Ao19 t725.length co19 : Value).ownBlock)) ∧ some k_ ≠ (.slice Ao47 t736.length co47 : Value).ownBlock) ∧ some k_ ≠ (.slice Ao48 t739.length co48 : Value).ownBlock)) (n := t716.length) (c := co13) ?_).2.2; exact (by (with_reducible repeat (first | apply Kd.R_alloc | apply Kd.R_drewN | apply Kd.R_drew)); exact (Kd.R_mono (Kd.R_far (p := ⟨gb743, 2, none⟩) (Kd.R_far (p := ⟨gb743, 1, none⟩) (Kd.R_far (p := ⟨gb743, 0, none⟩) (Kd.R_types HO_721002.out BK743.out (by decide)) (fun _ hk => hk.2) (.int .i64 t735)) (fun _ hk => hk.2) (.slice Ao47 t736.length co47)) (fun _ hk => hk.2) (.slice Ao48 t739.length co48)) (fun _ h_ => h_.1)))); (case side8 => exact (Kd.R_reads' HO_721002.out).2.1); rintro e w56 ⟨rfl, hb⟩; refine ⟨_, rfl, ?_⟩; have n0_ := Aside0.mk (Kd.R_below (by (with_reducible repeat (first | apply Kd.R_alloc | apply Kd.R_drewN | apply Kd.R_drew)); exact (Kd.R_mono (Kd.R_far (p := ⟨gb743, 2, none⟩) (Kd.R_far (p := ⟨gb743, 1, none⟩) (Kd.R_far (p := ⟨gb743, 0, none⟩) (Kd.R_types HO_721001.out BK743.out (by decide)) (fun _ hk => hk.2) (.int .i64 t735)) (fun _ hk => hk.2) (.slice Ao47 t736.length co47)) (fun _ hk => hk.2) (.slice Ao48 t739.length co48)) (fun _ h_ => h_.1))) hb); have n1_ := Aside0.mk (Kd.R_below (by (with_reducible repeat (first | apply Kd.R_alloc | apply Kd.R_drewN | apply Kd.R_drew)); exact (Kd.R_mono (Kd.R_far (p := ⟨gb743, 2, none⟩) (Kd.R_far (p := ⟨gb743, 1, none⟩) (Kd.R_far (p := ⟨gb743, 0, none⟩) (Kd.R_types HO_721002.out BK743.out (by decide)) (fun _ hk => hk.2) (.int .i64 t735)) (fun _ hk => hk.2) (.slice Ao47 t736.length co47)) (fun _ hk => hk.2) (.slice Ao48 t739.length co48)) (fun _ h_ => h_.1))) hb); have n2_ := Aside0.mk (Kd.R_below (by (with_reducible repeat (first | apply Kd.R_alloc | apply Kd.R_drewN | apply Kd.R_drew)); exact (Kd.R_mono (Kd.R_far (p := ⟨gb743, 2, none⟩) (Kd.R_far (p := ⟨gb743, 1, none⟩) (Kd.R_far (p := ⟨gb743, 0, none⟩) (Kd.R_types HO_730001.out BK743.out (by decide)) (fun _ hk => hk.2) (.int .i64 t735)) (fun _ hk => hk.2) (.slice Ao47 t736.length co47)) (fun _ hk => hk.2) (.slice Ao48 t739.length co48)) (fun _ h_ => h_.1))) hb); have n3_ := Aside0.mk (Kd.R_below (by (with_reducible repeat (first | apply Kd.R_alloc | apply Kd.R_drewN | apply Kd.R_drew)); exact (Kd.R_mono (Kd.R_far (p := ⟨gb743, 2, none⟩) (Kd.R_far (p := ⟨gb743, 1, none⟩) (Kd.R_far (p := ⟨gb743, 0, none⟩) (Kd.R_types HO_730002.out BK743.out (by decide)) (fun _ hk => hk.2) (.int .i64 t735)) (fun _ hk => hk.2) (.slice Ao47 t736.length co47)) (fun _ hk => hk.2) (.slice Ao48 t739.length co48)) (fun _ h_ => h_.1))) hb); have n4_ := Aside0.mk (Kd.R_below (by (with_reducible repeat (first | apply Kd.R_alloc | apply Kd.R_drewN | apply Kd.R_drew)); exact (Kd.R_mono (Kd.R_far (p := ⟨gb743, 2, none⟩) (Kd.R_far (p := ⟨gb743, 1, none⟩) (Kd.R_far (p := ⟨gb743, 0, none⟩) (Kd.R_types HO738.out BK743.out (by decide)) (fun _ hk => hk.2) (.int .i64 t735)) (fun _ hk => hk.2) (.slice Ao47 t736.length co47)) (fun _ hk => hk.2) (.slice Ao48 t739.length co48)) (fun _ h_ => h_.1))) hb); have n5_ := Aside0.mk (Kd.R_below (by (with_reducible repeat (first | apply Kd.R_alloc | apply Kd.R_drewN | apply Kd.R_drew)); exact (Kd.R_mono (Kd.R_far (p := ⟨gb743, 2, none⟩) (Kd.R_far (p := ⟨gb743, 1, none⟩) (Kd.R_far (p := ⟨gb743, 0, none⟩) (Kd.R_types HO741.out BK743.out (by decide)) (fun _ hk => hk.2) (.int .i64 t735)) (fun _ hk => hk.2) (.slice Ao47 t736.length co47)) (fun _ hk => hk.2) (.slice Ao48 t739.length co48)) (fun _ h_ => h_.1))) hb); have n6_ := Aside0.mk (blk_below (g := gb720) (o := .cells #[.int .i64 t712, .slice Ao12 t713.length co12, .slice Ao13 t716.length co13] 42 (0, 0)) (by (with_reducible repeat (first | refine blk_drewN ?_ _ | refine blk_drew ?_ | refine blk_alloc ?_ _)); refine blk_far ?_ NB720_743.out _; (with_reducible repeat (first | refine blk_drewN ?_ _ | refine blk_drew ?_ | refine blk_alloc ?_ _)); refine blk_far ?_ NB720_743.out _; (with_reducible repeat (first | refine blk_drewN ?_ _ | refine blk_drew ?_ | refine blk_alloc ?_ _)); refine blk_far ?_ NB720_743.out _; (with_reducible repeat (first | refine blk_drewN ?_ _ | refine blk_drew ?_ | refine blk_alloc ?_ _)); exact BK720.out) hb); have n7_ := Aside0.mk (blk_below (g := gb729) (o := .cells #[.int .i64 t721, .slice Ao18 t722.length co18, .slice Ao19 t725.length co19] 42 (0, 0)) (by (with_reducible repeat (first | refine blk_drewN ?_ _ | refine blk_drew ?_ | refine blk_alloc ?_ _)); refine blk_far ?_ NB729_743.out _; (with_reducible repeat (first | refine blk_drewN ?_ _ | refine blk_drew ?_ | refine blk_alloc ?_ _)); refine blk_far ?_ NB729_743.out _; (with_reducible repeat (first | refine blk_drewN ?_ _ | refine blk_drew ?_ | refine blk_alloc ?_ _)); refine blk_far ?_ NB729_743.out _; (with_reducible repeat (first | refine blk_drewN ?_ _ | refine blk_drew ?_ | refine blk_alloc ?_ _)); exact BK729.out) hb); have n8_ := Aside0.mk (blk_below (g := gb743) (o := .cells #[.int .i64 t735, .slice Ao47 t736.length co47, .slice Ao48 t739.length co48] 42 (0, 0)) (by (with_reducible repeat (first | refine blk_drewN ?_ _ | refine blk_drew ?_ | refine blk_alloc ?_ _)); refine blk_put (cs := #[.int .i64 t735, .slice Ao47 t736.length co47, .slice none 0 0]) ?_ 2 _ rfl; (with_reducible repeat (first | refine blk_drewN ?_ _ | refine blk_drew ?_ | refine blk_alloc ?_ _)); refine blk_put (cs := #[.int .i64 t735, .slice none 0 0, .slice none 0 0]) ?_ 1 _ rfl; (with_reducible repeat (first | refine blk_drewN ?_ _ | refine blk_drew ?_ | refine blk_alloc ?_ _)); refine blk_put (cs := #[.int .i64 0, .slice none 0 0, .slice none 0 0]) ?_ 0 _ rfl; (with_reducible repeat (first | refine blk_drewN ?_ _ | refine blk_drew ?_ | refine blk_alloc ?_ _)); exact BK743.out) hb); have n9_ := Aside0.mk (below_step (by repeat (first | (with_reducible first | exact HB.out | apply below_alloc | apply pw_below_drewN | apply below_drew1 | refine below_set ?_ GE720.out | refine below_set ?_ GE729.out | refine below_set ?_ GE743.out) | exact HB.out)) hb); clear HO_721001; clear HO_721002; clear HO_730001; clear HO_730002; clear HO738; clear HO741; clear BK720; clear BK729; clear BK743; clear HB; have HO_721001 := n0_; have HO_721002 := n1_; have HO_730001 := n2_; have HO_730002 := n3_; have HO738 := n4_; have HO741 := n5_; have BK720 := n6_; have BK729 := n7_; have BK743 := n8_; have HB := n9_; clear n0_ n1_ n2_ n3_ n4_ n5_ n6_ n7_ n8_ n9_; (try clear hb); (try clear hb2); (try clear hk); (try clear hi)))
          go_meet
          case rel => exact ⟨_, ((t742 != t719)), (by first | rfl | (simp; done) | (simp [*]; done)), H', ⟨by have := HJ7.out; first | omega | exact Nat.le_refl _⟩, ⟨by (with_reducible repeat (first | apply Kd.R_alloc | apply Kd.R_drewN | apply Kd.R_drew)); exact Kd.R_mono HO_721001.out (fun _ hk => ⟨hk.1.1.1, ⟨hk.1.1.2.1, ⟨hk.1.1.2.2, ⟨hk.1.2, hk.2⟩⟩⟩⟩)⟩, ⟨by (with_reducible repeat (first | apply Kd.R_alloc | apply Kd.R_drewN | apply Kd.R_drew)); exact Kd.R_mono HO_721002.out (fun _ hk => ⟨hk.1.1.1, ⟨hk.1.1.2.1, ⟨hk.1.1.2.2, ⟨hk.1.2, hk.2⟩⟩⟩⟩)⟩, ⟨by (with_reducible repeat (first | apply Kd.R_alloc | apply Kd.R_drewN | apply Kd.R_drew)); exact Kd.R_mono HO_730001.out (fun _ hk => ⟨hk.1.1.1, ⟨hk.1.1.2.1, ⟨hk.1.1.2.2, ⟨hk.1.2, hk.2⟩⟩⟩⟩)⟩, ⟨by (with_reducible repeat (first | apply Kd.R_alloc | apply Kd.R_drewN | apply Kd.R_drew)); exact Kd.R_mono HO_730002.out (fun _ hk => ⟨hk.1.1.1, ⟨hk.1.1.2.1, ⟨hk.1.1.2.2, ⟨hk.1.2, hk.2⟩⟩⟩⟩)⟩, ⟨by (with_reducible repeat (first | apply Kd.R_alloc | apply Kd.R_drewN | apply Kd.R_drew)); exact Kd.R_mono HO738.out (fun _ hk => ⟨hk.1.1.1.2, ⟨hk.1.1.2, ⟨hk.1.2, ⟨hk.2, hk.1.1.1.1⟩⟩⟩⟩)⟩, ⟨by (with_reducible repeat (first | apply Kd.R_alloc | apply Kd.R_drewN | apply Kd.R_drew)); exact Kd.R_mono HO741.out (fun _ hk => ⟨hk.1.1.1.2, ⟨hk.1.1.2, ⟨hk.1.2, ⟨hk.2, hk.1.1.1.1⟩⟩⟩⟩)⟩, ⟨by (with_reducible repeat (first | refine blk_drewN ?_ _ | refine blk_drew ?_ | refine blk_alloc ?_ _)); exact BK720.out⟩, ⟨by (with_reducible repeat (first | refine blk_drewN ?_ _ | refine blk_drew ?_ | refine blk_alloc ?_ _)); exact BK729.out⟩, ⟨by (with_reducible repeat (first | refine blk_drewN ?_ _ | refine blk_drew ?_ | refine blk_alloc ?_ _)); exact BK743.out⟩, ⟨by repeat (first | (with_reducible first | exact HB.out | apply below_alloc | apply pw_below_drewN | apply below_drew1 | refine below_set ?_ GE720.out | refine below_set ?_ GE729.out | refine below_set ?_ GE743.out) | exact HB.out)⟩⟩
         ·replace c50 := Bool.eq_false_iff.mpr c50
          subst c50
          have H1 : (laws_FnExactSignAt.j1 kj7 t731 true t721 t732 t733) = some r := by rw [if_neg (show ¬ (false = true) by decide)] at H; exact H
          clear H
          have H := H1
          clear H1
          have H' := Aside0.mk H
          clear H
          have hnb57 := NB743_720.out
          have hnc57 := NB720_743.out
          have hnb58 := NB743_729.out
          have hnc58 := NB729_743.out
          have hcz59_0 : w43.cell? ⟨gb743, 0, none⟩ = some (.int .i64 0) := (blk_cell BK743.out 0).trans rfl
          have hcz59_1 : w43.cell? ⟨gb743, 1, none⟩ = some (.slice none 0 0) := (blk_cell BK743.out 1).trans rfl
          have hcz59_2 : w43.cell? ⟨gb743, 2, none⟩ = some (.slice none 0 0) := (blk_cell BK743.out 2).trans rfl
          have hfz59_0 := blk_frozen BK743.out 0
          have hfz59_1 := blk_frozen BK743.out 1
          have hfz59_2 := blk_frozen BK743.out 2
          have hnb60 := NB720_729.out
          have hnc60 := NB729_720.out
          have hcz61_0 : w43.cell? ⟨gb720, 0, none⟩ = some (.int .i64 t712) := (blk_cell BK720.out 0).trans rfl
          have hcz61_1 : w43.cell? ⟨gb720, 1, none⟩ = some (.slice Ao12 t713.length co12) := (blk_cell BK720.out 1).trans rfl
          have hcz61_2 : w43.cell? ⟨gb720, 2, none⟩ = some (.slice Ao13 t716.length co13) := (blk_cell BK720.out 2).trans rfl
          have hfz61_0 := blk_frozen BK720.out 0
          have hfz61_1 := blk_frozen BK720.out 1
          have hfz61_2 := blk_frozen BK720.out 2
          go_wp2_with (first | ((with_reducible refine gate_callee (f := 32) rfl ?_); refine goesL_ (some 64) rfl rfl Tryd.func32 (by kernel_rfl) rfl #[.agg #[.int .i64 t735, .slice Ao47 t736.length co47, .slice Ao48 t739.length co48], .agg #[.int .i64 t712, .slice Ao12 t713.length co12, .slice Ao13 t716.length co13]] rfl (by (try simp only [List.map_toArray, List.map_cons, List.map_nil]); first | done | rfl | (simp only [List.length_drop, List.length_take]; rfl)) ?_; (with_reducible refine (laws_eqSig.calls kj7 t735 _ _ t736 _ _ t739 t712 _ _ t713 _ _ t716 false _ ?side1 ?side2 ?side3 ?side4 ?side5 ?side6 ?side7 ?side8 A49.out).mono ?_); (case side1 => refine (Kd.R_reads' (e := 9) (base := w.heap.size) (ok := fun k_ => ((((some k_ ≠ (.slice Ao48 t739.length co48 : Value).ownBlock ∧ some k_ ≠ (.slice Ao12 t713.length co12 : Value).ownBlock) ∧ some k_ ≠ (.slice Ao13 t716.length co13 : Value).ownBlock) ∧ some k_ ≠ (.slice Ao18 t722.length co18 : Value).ownBlock) ∧ some k_ ≠ (.slice Ao19 t725.length co19 : Value).ownBlock)) (n := t736.length) (c := co47) ?_).2.2; exact (by (with_reducible repeat (first | apply Kd.R_alloc | apply Kd.R_drewN | apply Kd.R_drew)); exact (Kd.R_mono (Kd.R_far (p := ⟨gb743, 2, none⟩) (Kd.R_far (p := ⟨gb743, 1, none⟩) (Kd.R_far (p := ⟨gb743, 0, none⟩) (Kd.R_types HO738.out BK743.out (by decide)) (fun _ hk => hk.2) (.int .i64 t735)) (fun _ hk => hk.2) (.slice Ao47 t736.length co47)) (fun _ hk => hk.2) (.slice Ao48 t739.length co48)) (fun _ h_ => h_.1)))); (case side2 => exact (Kd.R_reads' HO738.out).2.1); (case side3 => refine (Kd.R_reads' (e := 9) (base := w.heap.size) (ok := fun k_ => ((((some k_ ≠ (.slice Ao47 t736.length co47 : Value).ownBlock ∧ some k_ ≠ (.slice Ao12 t713.length co12 : Value).ownBlock) ∧ some k_ ≠ (.slice Ao13 t716.length co13 : Value).ownBlock) ∧ some k_ ≠ (.slice Ao18 t722.length co18 : Value).ownBlock) ∧ some k_ ≠ (.slice Ao19 t725.length co19 : Value).ownBlock)) (n := t739.length) (c := co48) ?_).2.2; exact (by (with_reducible repeat (first | apply Kd.R_alloc | apply Kd.R_drewN | apply Kd.R_drew)); exact (Kd.R_mono (Kd.R_far (p := ⟨gb743, 2, none⟩) (Kd.R_far (p := ⟨gb743, 1, none⟩) (Kd.R_far (p := ⟨gb743, 0, none⟩) (Kd.R_types HO741.out BK743.out (by decide)) (fun _ hk => hk.2) (.int .i64 t735)) (fun _ hk => hk.2) (.slice Ao47 t736.length co47)) (fun _ hk => hk.2) (.slice Ao48 t739.length co48)) (fun _ h_ => h_.1)))); (case side4 => exact (Kd.R_reads' HO741.out).2.1); (case side5 => refine (Kd.R_reads' (e := 9) (base := w.heap.size) (ok := fun k_ => (((some k_ ≠ (.slice Ao13 t716.length co13 : Value).ownBlock ∧ (some k_ ≠ (.slice Ao18 t722.length co18 : Value).ownBlock ∧ some k_ ≠ (.slice Ao19 t725.length co19 : Value).ownBlock)) ∧ some k_ ≠ (.slice Ao47 t736.length co47 : Value).ownBlock) ∧ some k_ ≠ (.slice Ao48 t739.length co48 : Value).ownBlock)) (n := t713.length) (c := co12) ?_).2.2; exact (by (with_reducible repeat (first | apply Kd.R_alloc | apply Kd.R_drewN | apply Kd.R_drew)); exact (Kd.R_mono (Kd.R_far (p := ⟨gb743, 2, none⟩) (Kd.R_far (p := ⟨gb743, 1, none⟩) (Kd.R_far (p := ⟨gb743, 0, none⟩) (Kd.R_types HO_721001.out BK743.out (by decide)) (fun _ hk => hk.2) (.int .i64 t735)) (fun _ hk => hk.2) (.slice Ao47 t736.length co47)) (fun _ hk => hk.2) (.slice Ao48 t739.length co48)) (fun _ h_ => h_.1)))); (case side6 => exact (Kd.R_reads' HO_721001.out).2.1); (case side7 => refine (Kd.R_reads' (e := 9) (base := w.heap.size) (ok := fun k_ => (((some k_ ≠ (.slice Ao12 t713.length co12 : Value).ownBlock ∧ (some k_ ≠ (.slice Ao18 t722.length co18 : Value).ownBlock ∧ some k_ ≠ (.slice Ao19 t725.length co19 : Value).ownBlock)) ∧ some k_ ≠ (.slice Ao47 t736.length co47 : Value).ownBlock) ∧ some k_ ≠ (.slice Ao48 t739.length co48 : Value).ownBlock)) (n := t716.length) (c := co13) ?_).2.2; exact (by (with_reducible repeat (first | apply Kd.R_alloc | apply Kd.R_drewN | apply Kd.R_drew)); exact (Kd.R_mono (Kd.R_far (p := ⟨gb743, 2, none⟩) (Kd.R_far (p := ⟨gb743, 1, none⟩) (Kd.R_far (p := ⟨gb743, 0, none⟩) (Kd.R_types HO_721002.out BK743.out (by decide)) (fun _ hk => hk.2) (.int .i64 t735)) (fun _ hk => hk.2) (.slice Ao47 t736.length co47)) (fun _ hk => hk.2) (.slice Ao48 t739.length co48)) (fun _ h_ => h_.1)))); (case side8 => exact (Kd.R_reads' HO_721002.out).2.1); rintro e w62 ⟨rfl, hb⟩; refine ⟨_, rfl, ?_⟩; have n0_ := Aside0.mk (Kd.R_below (by (with_reducible repeat (first | apply Kd.R_alloc | apply Kd.R_drewN | apply Kd.R_drew)); exact (Kd.R_mono (Kd.R_far (p := ⟨gb743, 2, none⟩) (Kd.R_far (p := ⟨gb743, 1, none⟩) (Kd.R_far (p := ⟨gb743, 0, none⟩) (Kd.R_types HO_721001.out BK743.out (by decide)) (fun _ hk => hk.2) (.int .i64 t735)) (fun _ hk => hk.2) (.slice Ao47 t736.length co47)) (fun _ hk => hk.2) (.slice Ao48 t739.length co48)) (fun _ h_ => h_.1))) hb); have n1_ := Aside0.mk (Kd.R_below (by (with_reducible repeat (first | apply Kd.R_alloc | apply Kd.R_drewN | apply Kd.R_drew)); exact (Kd.R_mono (Kd.R_far (p := ⟨gb743, 2, none⟩) (Kd.R_far (p := ⟨gb743, 1, none⟩) (Kd.R_far (p := ⟨gb743, 0, none⟩) (Kd.R_types HO_721002.out BK743.out (by decide)) (fun _ hk => hk.2) (.int .i64 t735)) (fun _ hk => hk.2) (.slice Ao47 t736.length co47)) (fun _ hk => hk.2) (.slice Ao48 t739.length co48)) (fun _ h_ => h_.1))) hb); have n2_ := Aside0.mk (Kd.R_below (by (with_reducible repeat (first | apply Kd.R_alloc | apply Kd.R_drewN | apply Kd.R_drew)); exact (Kd.R_mono (Kd.R_far (p := ⟨gb743, 2, none⟩) (Kd.R_far (p := ⟨gb743, 1, none⟩) (Kd.R_far (p := ⟨gb743, 0, none⟩) (Kd.R_types HO_730001.out BK743.out (by decide)) (fun _ hk => hk.2) (.int .i64 t735)) (fun _ hk => hk.2) (.slice Ao47 t736.length co47)) (fun _ hk => hk.2) (.slice Ao48 t739.length co48)) (fun _ h_ => h_.1))) hb); have n3_ := Aside0.mk (Kd.R_below (by (with_reducible repeat (first | apply Kd.R_alloc | apply Kd.R_drewN | apply Kd.R_drew)); exact (Kd.R_mono (Kd.R_far (p := ⟨gb743, 2, none⟩) (Kd.R_far (p := ⟨gb743, 1, none⟩) (Kd.R_far (p := ⟨gb743, 0, none⟩) (Kd.R_types HO_730002.out BK743.out (by decide)) (fun _ hk => hk.2) (.int .i64 t735)) (fun _ hk => hk.2) (.slice Ao47 t736.length co47)) (fun _ hk => hk.2) (.slice Ao48 t739.length co48)) (fun _ h_ => h_.1))) hb); have n4_ := Aside0.mk (Kd.R_below (by (with_reducible repeat (first | apply Kd.R_alloc | apply Kd.R_drewN | apply Kd.R_drew)); exact (Kd.R_mono (Kd.R_far (p := ⟨gb743, 2, none⟩) (Kd.R_far (p := ⟨gb743, 1, none⟩) (Kd.R_far (p := ⟨gb743, 0, none⟩) (Kd.R_types HO738.out BK743.out (by decide)) (fun _ hk => hk.2) (.int .i64 t735)) (fun _ hk => hk.2) (.slice Ao47 t736.length co47)) (fun _ hk => hk.2) (.slice Ao48 t739.length co48)) (fun _ h_ => h_.1))) hb); have n5_ := Aside0.mk (Kd.R_below (by (with_reducible repeat (first | apply Kd.R_alloc | apply Kd.R_drewN | apply Kd.R_drew)); exact (Kd.R_mono (Kd.R_far (p := ⟨gb743, 2, none⟩) (Kd.R_far (p := ⟨gb743, 1, none⟩) (Kd.R_far (p := ⟨gb743, 0, none⟩) (Kd.R_types HO741.out BK743.out (by decide)) (fun _ hk => hk.2) (.int .i64 t735)) (fun _ hk => hk.2) (.slice Ao47 t736.length co47)) (fun _ hk => hk.2) (.slice Ao48 t739.length co48)) (fun _ h_ => h_.1))) hb); have n6_ := Aside0.mk (blk_below (g := gb720) (o := .cells #[.int .i64 t712, .slice Ao12 t713.length co12, .slice Ao13 t716.length co13] 42 (0, 0)) (by (with_reducible repeat (first | refine blk_drewN ?_ _ | refine blk_drew ?_ | refine blk_alloc ?_ _)); refine blk_far ?_ NB720_743.out _; (with_reducible repeat (first | refine blk_drewN ?_ _ | refine blk_drew ?_ | refine blk_alloc ?_ _)); refine blk_far ?_ NB720_743.out _; (with_reducible repeat (first | refine blk_drewN ?_ _ | refine blk_drew ?_ | refine blk_alloc ?_ _)); refine blk_far ?_ NB720_743.out _; (with_reducible repeat (first | refine blk_drewN ?_ _ | refine blk_drew ?_ | refine blk_alloc ?_ _)); exact BK720.out) hb); have n7_ := Aside0.mk (blk_below (g := gb729) (o := .cells #[.int .i64 t721, .slice Ao18 t722.length co18, .slice Ao19 t725.length co19] 42 (0, 0)) (by (with_reducible repeat (first | refine blk_drewN ?_ _ | refine blk_drew ?_ | refine blk_alloc ?_ _)); refine blk_far ?_ NB729_743.out _; (with_reducible repeat (first | refine blk_drewN ?_ _ | refine blk_drew ?_ | refine blk_alloc ?_ _)); refine blk_far ?_ NB729_743.out _; (with_reducible repeat (first | refine blk_drewN ?_ _ | refine blk_drew ?_ | refine blk_alloc ?_ _)); refine blk_far ?_ NB729_743.out _; (with_reducible repeat (first | refine blk_drewN ?_ _ | refine blk_drew ?_ | refine blk_alloc ?_ _)); exact BK729.out) hb); have n8_ := Aside0.mk (blk_below (g := gb743) (o := .cells #[.int .i64 t735, .slice Ao47 t736.length co47, .slice Ao48 t739.length co48] 42 (0, 0)) (by (with_reducible repeat (first | refine blk_drewN ?_ _ | refine blk_drew ?_ | refine blk_alloc ?_ _)); refine blk_put (cs := #[.int .i64 t735, .slice Ao47 t736.length co47, .slice none 0 0]) ?_ 2 _ rfl; (with_reducible repeat (first | refine blk_drewN ?_ _ | refine blk_drew ?_ | refine blk_alloc ?_ _)); refine blk_put (cs := #[.int .i64 t735, .slice none 0 0, .slice none 0 0]) ?_ 1 _ rfl; (with_reducible repeat (first | refine blk_drewN ?_ _ | refine blk_drew ?_ | refine blk_alloc ?_ _)); refine blk_put (cs := #[.int .i64 0, .slice none 0 0, .slice none 0 0]) ?_ 0 _ rfl; (with_reducible repeat (first | refine blk_drewN ?_ _ | refine blk_drew ?_ | refine blk_alloc ?_ _)); exact BK743.out) hb); have n9_ := Aside0.mk (below_step (by repeat (first | (with_reducible first | exact HB.out | apply below_alloc | apply pw_below_drewN | apply below_drew1 | refine below_set ?_ GE720.out | refine below_set ?_ GE729.out | refine below_set ?_ GE743.out) | exact HB.out)) hb); clear HO_721001; clear HO_721002; clear HO_730001; clear HO_730002; clear HO738; clear HO741; clear BK720; clear BK729; clear BK743; clear HB; have HO_721001 := n0_; have HO_721002 := n1_; have HO_730001 := n2_; have HO_730002 := n3_; have HO738 := n4_; have HO741 := n5_; have BK720 := n6_; have BK729 := n7_; have BK743 := n8_; have HB := n9_; clear n0_ n1_ n2_ n3_ n4_ n5_ n6_ n7_ n8_ n9_; (try clear hb); (try clear hb2); (try clear hk); (try clear hi)))
          go_meet
          case rel => exact ⟨_, (true), (by first | rfl | (simp; done) | (simp [*]; done)), H', ⟨by have := HJ7.out; first | omega | exact Nat.le_refl _⟩, ⟨by (with_reducible repeat (first | apply Kd.R_alloc | apply Kd.R_drewN | apply Kd.R_drew)); exact Kd.R_mono HO_721001.out (fun _ hk => ⟨hk.1.1.1, ⟨hk.1.1.2.1, ⟨hk.1.1.2.2, ⟨hk.1.2, hk.2⟩⟩⟩⟩)⟩, ⟨by (with_reducible repeat (first | apply Kd.R_alloc | apply Kd.R_drewN | apply Kd.R_drew)); exact Kd.R_mono HO_721002.out (fun _ hk => ⟨hk.1.1.1, ⟨hk.1.1.2.1, ⟨hk.1.1.2.2, ⟨hk.1.2, hk.2⟩⟩⟩⟩)⟩, ⟨by (with_reducible repeat (first | apply Kd.R_alloc | apply Kd.R_drewN | apply Kd.R_drew)); exact Kd.R_mono HO_730001.out (fun _ hk => ⟨hk.1.1.1, ⟨hk.1.1.2.1, ⟨hk.1.1.2.2, ⟨hk.1.2, hk.2⟩⟩⟩⟩)⟩, ⟨by (with_reducible repeat (first | apply Kd.R_alloc | apply Kd.R_drewN | apply Kd.R_drew)); exact Kd.R_mono HO_730002.out (fun _ hk => ⟨hk.1.1.1, ⟨hk.1.1.2.1, ⟨hk.1.1.2.2, ⟨hk.1.2, hk.2⟩⟩⟩⟩)⟩, ⟨by (with_reducible repeat (first | apply Kd.R_alloc | apply Kd.R_drewN | apply Kd.R_drew)); exact Kd.R_mono HO738.out (fun _ hk => ⟨hk.1.1.1.2, ⟨hk.1.1.2, ⟨hk.1.2, ⟨hk.2, hk.1.1.1.1⟩⟩⟩⟩)⟩, ⟨by (with_reducible repeat (first | apply Kd.R_alloc | apply Kd.R_drewN | apply Kd.R_drew)); exact Kd.R_mono HO741.out (fun _ hk => ⟨hk.1.1.1.2, ⟨hk.1.1.2, ⟨hk.1.2, ⟨hk.2, hk.1.1.1.1⟩⟩⟩⟩)⟩, ⟨by (with_reducible repeat (first | refine blk_drewN ?_ _ | refine blk_drew ?_ | refine blk_alloc ?_ _)); exact BK720.out⟩, ⟨by (with_reducible repeat (first | refine blk_drewN ?_ _ | refine blk_drew ?_ | refine blk_alloc ?_ _)); exact BK729.out⟩, ⟨by (with_reducible repeat (first | refine blk_drewN ?_ _ | refine blk_drew ?_ | refine blk_alloc ?_ _)); exact BK743.out⟩, ⟨by repeat (first | (with_reducible first | exact HB.out | apply below_alloc | apply pw_below_drewN | apply below_drew1 | refine below_set ?_ GE720.out | refine below_set ?_ GE729.out | refine below_set ?_ GE743.out) | exact HB.out)⟩⟩
        case rest =>
         clear HC36
         try clear c1
         try clear c2
         try clear p2
         try clear c3
         try clear c4
         try clear c4b0
         try clear c4b1
         try clear c5
         try clear c5b0
         try clear c5b1
         try clear c6
         try clear c8
         try clear c16
         try clear c21
         try clear c22
         try clear c26
         try clear c30
         try clear c32
         try clear c33
         try clear c33b0
         try clear c34
         try clear c34b0
         try clear c34b1
         try clear c37
         try clear c38
         try clear c39
         try clear c40
         try clear c41
         try clear c44
         try clear c45
         try clear c50
         try clear c51
         try clear c52
         try clear c54
         try clear c57
         try clear c58
         try clear c60
         try clear hcz11_0
         try clear hcz11_1
         try clear hcz11_2
         try clear hcz17_0
         try clear hcz17_1
         try clear hcz17_2
         try clear hcz23_0
         try clear hcz23_1
         try clear hcz23_2
         try clear hcz24_0
         try clear hcz24_1
         try clear hcz24_2
         try clear hcz27_0
         try clear hcz27_1
         try clear hcz27_2
         try clear hcz28_0
         try clear hcz28_1
         try clear hcz28_2
         try clear hcz38_0
         try clear hcz38_1
         try clear hcz38_2
         try clear hcz40_0
         try clear hcz40_1
         try clear hcz40_2
         try clear hcz46_0
         try clear hcz46_1
         try clear hcz46_2
         try clear hcz53_0
         try clear hcz53_1
         try clear hcz53_2
         try clear hcz55_0
         try clear hcz55_1
         try clear hcz55_2
         try clear hcz59_0
         try clear hcz59_1
         try clear hcz59_2
         try clear hcz61_0
         try clear hcz61_1
         try clear hcz61_2
         try clear hfz11_0
         try clear hfz11_1
         try clear hfz11_2
         try clear hfz17_0
         try clear hfz17_1
         try clear hfz17_2
         try clear hfz23_0
         try clear hfz23_1
         try clear hfz23_2
         try clear hfz24_0
         try clear hfz24_1
         try clear hfz24_2
         try clear hfz27_0
         try clear hfz27_1
         try clear hfz27_2
         try clear hfz28_0
         try clear hfz28_1
         try clear hfz28_2
         try clear hfz38_0
         try clear hfz38_1
         try clear hfz38_2
         try clear hfz40_0
         try clear hfz40_1
         try clear hfz40_2
         try clear hfz46_0
         try clear hfz46_1
         try clear hfz46_2
         try clear hfz53_0
         try clear hfz53_1
         try clear hfz53_2
         try clear hfz55_0
         try clear hfz55_1
         try clear hfz55_2
         try clear hfz59_0
         try clear hfz59_1
         try clear hfz59_2
         try clear hfz61_0
         try clear hfz61_1
         try clear hfz61_2
         try clear p2
         obtain ⟨kq, x70_35, rfl, HA, HJ35, HO_721001, HO_721002, HO_730001, HO_730002, HO_744001, HO_744002, BK720, BK729, BK743, HB⟩ := hcut
         have hl730001_35 := (Kd.R_reads' HO_730001.out).1
         rw [hl730001_35] at HO_730001
         (try simp only [hl730001_35])
         (try simp only [hl730001_35] at BK720)
         (try simp only [hl730001_35] at BK729)
         (try simp only [hl730001_35] at BK743)
         (try simp only [hl730001_35] at HO_721001)
         (try simp only [hl730001_35] at HO_721002)
         (try simp only [hl730001_35] at HO_730002)
         (try simp only [hl730001_35] at HO_744001)
         (try simp only [hl730001_35] at HO_744002)
         have hl730002_35 := (Kd.R_reads' HO_730002.out).1
         rw [hl730002_35] at HO_730002
         (try simp only [hl730002_35])
         (try simp only [hl730002_35] at BK720)
         (try simp only [hl730002_35] at BK729)
         (try simp only [hl730002_35] at BK743)
         (try simp only [hl730002_35] at HO_721001)
         (try simp only [hl730002_35] at HO_721002)
         (try simp only [hl730002_35] at HO_730001)
         (try simp only [hl730002_35] at HO_744001)
         (try simp only [hl730002_35] at HO_744002)
         cases kq with
         | zero => exact absurd HA.out (by simp [laws_FnExactSignAt.j1])
         | succ kj35 =>
          have H := HA.out
          clear HA
          simp only [laws_FnExactSignAt.j1] at H
          by_cases c63 : x70_35 = true
          ·subst c63
           have H1 : (none) = some r := by rw [if_pos rfl] at H; exact H
           clear H
           have H := H1
           clear H1
           exact absurd H (by simp)
          ·replace c63 := Bool.eq_false_iff.mpr c63
           subst c63
           have H1 : ((laws_heldSig.f kj35 t721 t732 t733 1).bind fun t745 => (if t745 < 0 then (none) else (if t745 = t731 then (some true) else (none)))) = some r := by rw [if_neg (show ¬ (false = true) by decide)] at H; exact H
           clear H
           have H := H1
           clear H1
           replace H := Option.bind_eq_some_iff.mp H
           obtain ⟨t745, A640, H⟩ := H
           replace H : (if t745 < 0 then (none) else (if t745 = t731 then (some true) else (none))) = some r := H
           have A64 := Aside0.mk A640
           clear A640
           by_cases c65 : t745 < 0
           ·rw [if_pos c65] at H
            exact absurd H (by simp)
           ·rw [if_neg c65] at H
            have c65b0 : decide (t745 < 0) = false := decide_eq_false c65
            clear c65
            by_cases c66 : t745 = t731
            ·rw [if_pos c66] at H
             have c66b0 : (t745 == t731) = true := beq_iff_eq.mpr c66
             have c66b1 : (t745 != t731) = false := bne_eq_false_iff_eq.mpr c66
             clear c66
             obtain rfl := Option.some.inj H
             have hnb67 := NB729_720.out
             have hnc67 := NB720_729.out
             have hnb68 := NB729_743.out
             have hnc68 := NB743_729.out
             have hcz69_0 : wc.cell? ⟨gb729, 0, none⟩ = some (.int .i64 t721) := (blk_cell BK729.out 0).trans rfl
             have hcz69_1 : wc.cell? ⟨gb729, 1, none⟩ = some (.slice Ao18 t732.length co18) := (blk_cell BK729.out 1).trans rfl
             have hcz69_2 : wc.cell? ⟨gb729, 2, none⟩ = some (.slice Ao19 t733.length co19) := (blk_cell BK729.out 2).trans rfl
             have hfz69_0 := blk_frozen BK729.out 0
             have hfz69_1 := blk_frozen BK729.out 1
             have hfz69_2 := blk_frozen BK729.out 2
             go_wp2_with (first | ((with_reducible refine gate_callee (f := 41) rfl ?_); refine goesL_ (some 73) rfl rfl Tryd.func41 (by kernel_rfl) rfl #[.agg #[.int .i64 t721, .slice Ao18 t732.length co18, .slice Ao19 t733.length co19], .int .i64 1] rfl (by (try simp only [List.map_toArray, List.map_cons, List.map_nil]); first | done | rfl | (simp only [List.length_drop, List.length_take]; rfl)) ?_; (with_reducible refine (laws_heldSig.calls kj35 t721 _ _ t732 _ _ t733 1 t745 _ ?side1 ?side2 ?side3 ?side4 A64.out).mono ?_); (case side1 => repeat (first | exact (Kd.R_reads' HO_730001.out).2.2 | (with_reducible refine Kd.C_alloc ?_ _) | (with_reducible refine Kd.C_drewN ?_ _) | (with_reducible refine Kd.C_drew ?_))); (case side2 => exact (Kd.R_reads' HO_730001.out).2.1); (case side3 => repeat (first | exact (Kd.R_reads' HO_730002.out).2.2 | (with_reducible refine Kd.C_alloc ?_ _) | (with_reducible refine Kd.C_drewN ?_ _) | (with_reducible refine Kd.C_drew ?_))); (case side4 => exact (Kd.R_reads' HO_730002.out).2.1); rintro e w70 ⟨rfl, hb⟩; refine ⟨_, rfl, ?_⟩; have n0_ := Aside0.mk (Kd.R_below (by (with_reducible repeat (first | apply Kd.R_alloc | apply Kd.R_drewN | apply Kd.R_drew)); exact HO_721001.out) hb); have n1_ := Aside0.mk (Kd.R_below (by (with_reducible repeat (first | apply Kd.R_alloc | apply Kd.R_drewN | apply Kd.R_drew)); exact HO_721002.out) hb); have n2_ := Aside0.mk (Kd.R_below (by (with_reducible repeat (first | apply Kd.R_alloc | apply Kd.R_drewN | apply Kd.R_drew)); exact HO_730001.out) hb); have n3_ := Aside0.mk (Kd.R_below (by (with_reducible repeat (first | apply Kd.R_alloc | apply Kd.R_drewN | apply Kd.R_drew)); exact HO_730002.out) hb); have n4_ := Aside0.mk (Kd.R_below (by (with_reducible repeat (first | apply Kd.R_alloc | apply Kd.R_drewN | apply Kd.R_drew)); exact HO_744001.out) hb); have n5_ := Aside0.mk (Kd.R_below (by (with_reducible repeat (first | apply Kd.R_alloc | apply Kd.R_drewN | apply Kd.R_drew)); exact HO_744002.out) hb); have n6_ := Aside0.mk (blk_below (g := gb720) (o := .cells #[.int .i64 t712, .slice Ao12 t713.length co12, .slice Ao13 t716.length co13] 42 (0, 0)) (by (with_reducible repeat (first | refine blk_drewN ?_ _ | refine blk_drew ?_ | refine blk_alloc ?_ _)); exact BK720.out) hb); have n7_ := Aside0.mk (blk_below (g := gb729) (o := .cells #[.int .i64 t721, .slice Ao18 t732.length co18, .slice Ao19 t733.length co19] 42 (0, 0)) (by (with_reducible repeat (first | refine blk_drewN ?_ _ | refine blk_drew ?_ | refine blk_alloc ?_ _)); exact BK729.out) hb); have n8_ := Aside0.mk (blk_below (g := gb743) (o := .cells #[.int .i64 t735, .slice Ao47 t736.length co47, .slice Ao48 t739.length co48] 42 (0, 0)) (by (with_reducible repeat (first | refine blk_drewN ?_ _ | refine blk_drew ?_ | refine blk_alloc ?_ _)); exact BK743.out) hb); have n9_ := Aside0.mk (below_step (by repeat (first | (with_reducible first | exact HB.out | apply below_alloc | apply pw_below_drewN | apply below_drew1 | refine below_set ?_ GE720.out | refine below_set ?_ GE729.out | refine below_set ?_ GE743.out) | exact HB.out)) hb); clear HO_721001; clear HO_721002; clear HO_730001; clear HO_730002; clear HO_744001; clear HO_744002; clear BK720; clear BK729; clear BK743; clear HB; have HO_721001 := n0_; have HO_721002 := n1_; have HO_730001 := n2_; have HO_730002 := n3_; have HO_744001 := n4_; have HO_744002 := n5_; have BK720 := n6_; have BK729 := n7_; have BK743 := n8_; have HB := n9_; clear n0_ n1_ n2_ n3_ n4_ n5_ n6_ n7_ n8_ n9_; (try clear hb); (try clear hb2); (try clear hk); (try clear hi)))
             go_ret
             exact ⟨by first | rfl | (simp [errW_none, errW_some] <;> rfl) | (simp [*, errW_none, errW_some] <;> rfl), by repeat (first | (with_reducible first | exact HB.out | apply below_alloc | apply pw_below_drewN | apply below_drew1 | refine below_set ?_ GE720.out | refine below_set ?_ GE729.out | refine below_set ?_ GE743.out) | exact HB.out)⟩
            ·rw [if_neg c66] at H
             exact absurd H (by simp)
       ·rw [if_neg c34] at H
        exact absurd H (by simp)

/-- THE ONE PURE STATEMENT of laws_FnExactSignAt: yours. -/
def laws_FnExactSignAt.Pure : Prop := ∀ (a0 : ByteArray) (a1 : Int) (a2 : ByteArray), a0.size ≤ 140737488351232 → (Lit.int .i64 a1).wf = true → a2.size ≤ 140737488351232 → ∃ k, laws_FnExactSignAt.f k a0 a1 a2 = some true
theorem laws_FnExactSignAt.walk (P : laws_FnExactSignAt.Pure) (a0 : ByteArray) (a1 : Int) (a2 : ByteArray) (w : World) (w0 : a0.size ≤ 140737488351232) (w1 : (Lit.int .i64 a1).wf = true) (w2 : a2.size ≤ 140737488351232) (hLD : Laid w) :
  Calls Tryd.prog 8 #[.string a0, .int .i64 a1, .string a2] w fun e w' => e = .returned (.bool true) ∧ Below w.heap.size w w' := by
 have HLD := Aside0.mk hLD
 clear hLD
 obtain ⟨k, h⟩ := P a0 a1 a2 w0 w1 w2
 refine (laws_FnExactSignAt.calls k a0 a1 a2 true w h HLD.out).mono ?_
 rintro e w' ⟨rfl, hd⟩
 exact ⟨rfl, hd⟩

end Go.Proofs.YtjcmafoepabpkaaDoor.P
