-- printed texts of this session, regrouped
import Derived.Test.YtjcmafoepabpkaaDoorMW7
import Derived.Test.YtjcmafoepabpkaaDoorMW6
import Derived.Test.YtjcmafoepabpkaaDoorHA6
import Derived.Test.YtjcmafoepabpkaaDoorPx0
import Derived.Test.YtjcmafoepabpkaaDoorPx4
import Derived.Test.YtjcmafoepabpkaaDoorPx12
namespace Go.Proofs.YtjcmafoepabpkaaDoor.P
open Go.RowKit Go.Proofs.YtjcmafoepabpkaaDoorW.PrintWords Go.Proofs.YtjcmafoepabpkaaDoorW.PrintLast Go.Proofs.YtjcmafoepabpkaaDoorW.PrintMore
attribute [local go_sem] max2_int min2_int max_two min_two max_three min_three max_four min_four   -- for this text's walks alone
set_option linter.unusedVariables false
set_option linter.unusedSimpArgs false

/-! ### impl_CheckSig: function 31 -/
def impl_CheckSig.f (k : Nat) (a0 : ByteArray) (a1 : ByteArray) (a2_0 : Int) (l2_1 : List ByteArray) (l2_2 : List ByteArray) : Option (Bool) := (impl_SigOk.f k a2_0 l2_1 l2_2).bind fun t484 => (if t484 = true then ((impl_OnceFound.f k l2_1 a2_0 a1).bind fun t485 => ((impl_RootBy.f k t485 a2_0 l2_2).bind fun t486 => (some (t486.toList == a0.toList)))) else (some false))
theorem impl_CheckSig.mono : ∀ a0 a1 a2 a3 a4 k, LeO (impl_CheckSig.f k a0 a1 a2 a3 a4) (impl_CheckSig.f (k + 1) a0 a1 a2 a3 a4) := by
 intro a0 a1 a2 a3 a4 k
 unfold impl_CheckSig.f
 repeat' first
   | (with_reducible exact impl_OnceFound.mono _ _ _ _)
   | (with_reducible exact impl_RootBy.mono _ _ _ _)
   | (with_reducible exact impl_SigOk.mono _ _ _ _)
   | (with_reducible exact LeO.refl _)
   | (with_reducible exact LeO.none _)
   | (with_reducible refine LeO.ite ?_ ?_)
   | (with_reducible refine LeO.bind ?_ (fun _ => ?_))
   | exact impl_OnceFound.mono _ _ _ _
   | exact impl_RootBy.mono _ _ _ _
   | exact impl_SigOk.mono _ _ _ _
   | exact LeO.none _
   | refine LeO.ite ?_ ?_
   | refine LeO.bind ?_ (fun _ => ?_)
def impl_CheckSig.T1 : Bool × List (List Nat × List Nat) := (true, [([], []), ([0], [0]), ([1, 1], [1]), ([2], [2]), ([3, 2], [2, 3]), ([2], [2]), ([5, 2], [2, 5]), ([2], [2]), ([4, 6, 7, 2, 2], [2, 4, 6, 7]), ([2], [2]), ([9, 2], [2, 9]), ([2], [2]), ([11, 2], [2, 11]), ([8, 10, 12, 8, 2], [2, 8, 10, 12]), ([2], [2]), ([13, 14, 2], [2, 13, 14]), ([2, 15], [2, 15]), ([16, 13, 0, 1, 2, 3, 4, 5, 6, 7, 8, 9, 10, 11, 12, 13, 14, 15, 16], [16])])
def impl_CheckSig.B1 : List Nat := [0, 1, 3, 7, 15, 7, 39, 7, 255, 7, 519, 7, 2055, 8191, 7, 32767, 65535, 131071]
theorem impl_CheckSig.tab1 : rtab .any (opsOf Tryd.f31 1) = impl_CheckSig.T1 := by kernel_rfl
theorem impl_CheckSig.bits1 : waitsOk impl_CheckSig.T1.2 impl_CheckSig.B1 = true := by kernel_rfl
set_option maxHeartbeats 8000000 in
set_option maxRecDepth 100000 in
theorem impl_CheckSig.calls (k : Nat) (a0 : ByteArray) (a1 : ByteArray) (a2_0 : Int) (A2_1 : Option Addr) (c2_1 : Nat) (l2_1 : List ByteArray) (A2_2 : Option Addr) (c2_2 : Nat) (l2_2 : List ByteArray) (r : Bool) (w : World) (hr2_1 : Kd.C Kd.string w A2_1 l2_1.length l2_1) (hc2_1 : l2_1.length ≤ c2_1) (hr2_2 : Kd.C Kd.string w A2_2 l2_2.length l2_2) (hc2_2 : l2_2.length ≤ c2_2) (h : impl_CheckSig.f k a0 a1 a2_0 l2_1 l2_2 = some r) (hLD : Laid w) :
  Calls Tryd.prog 31 #[.string a0, .string a1, .agg #[.int .i64 a2_0, .slice A2_1 l2_1.length c2_1, .slice A2_2 l2_2.length c2_2]] w fun e w' => e = .returned (.bool r) ∧ Below w.heap.size w w' := by
 have HLD := Aside0.mk hLD
 clear hLD
 have hu42 := Tryd.underlying42
 have HR2_1 := Aside0.mk hr2_1
 have HC2_1 := Aside0.mk hc2_1
 clear hr2_1 hc2_1
 have HR2_2 := Aside0.mk hr2_2
 have HC2_2 := Aside0.mk hc2_2
 clear hr2_2 hc2_2
 have HB := Aside0.mk (Below.refl w.heap.size w)
 have H : ((impl_SigOk.f k a2_0 l2_1 l2_2).bind fun t484 => (if t484 = true then ((impl_OnceFound.f k l2_1 a2_0 a1).bind fun t485 => ((impl_RootBy.f k t485 a2_0 l2_2).bind fun t486 => (some (t486.toList == a0.toList)))) else (some false))) = some r := h
 clear h
 replace H := Option.bind_eq_some_iff.mp H
 obtain ⟨t484, A40, H⟩ := H
 try dsimp -simprocs only at H
 have A4 := Aside0.mk A40
 clear A40
 by_cases c5 : t484 = true
 ·subst c5
  have H1 : ((impl_OnceFound.f k l2_1 a2_0 a1).bind fun t485 => ((impl_RootBy.f k t485 a2_0 l2_2).bind fun t486 => (some (t486.toList == a0.toList)))) = some r := by rw [if_pos rfl] at H; exact H
  clear H
  have H := H1
  clear H1
  replace H := Option.bind_eq_some_iff.mp H
  obtain ⟨t485, A60, H⟩ := H
  try dsimp -simprocs only at H
  have A6 := Aside0.mk A60
  clear A60
  replace H := Option.bind_eq_some_iff.mp H
  obtain ⟨t486, A70, H⟩ := H
  try dsimp -simprocs only at H
  have A7 := Aside0.mk A70
  clear A70
  obtain rfl := Option.some.inj H
  go_enter Tryd.func31, Tryd.ntmps31
  try go_wp2_with (first | ((with_reducible refine gate_dst (N := 5) rfl ?_); refine box_event ?hg (N := 5) ?hd (cs := #[.int .i64 a2_0, .slice A2_1 l2_1.length c2_1, .slice A2_2 l2_2.length c2_2]) (t := 42) ?hr ?_; (case hd => rfl); (case hg => rfl); (case hr => first | (go_simp; done) | (go_simp; rfl)); intro gb483 hg w8 hbox hb; have n0_ := Aside0.mk (below_step (hB_) hb); have n1_ := Aside0.mk (hbox); have n2_ := Aside0.mk ((by rw [hg]; exact (below_size (hB_)) : w.heap.size ≤ gb483)); have n3_ := Aside0.mk ((by rw [hg]; exact (below_size (hB_)) : w.heap.size ≤ gb483)); replace HB := n0_; have BK483 := n1_; have GW483 := n2_; have GE483 := n3_; clear n0_ n1_ n2_ n3_; clear hb hbox hg))
  have n0_ := Aside0.mk (blk_drew BK483.out)
  have n1_ := Aside0.mk (below_drew1 HB.out)
  clear BK483
  clear HB
  have BK483 := n0_
  have HB := n1_
  clear n0_ n1_
  refine start_ (n := 18) (S := fun w' => w'.cell? ⟨gb483, 0, none⟩ = some (.int .i64 a2_0) ∧ w'.cell? ⟨gb483, 1, none⟩ = some (.slice A2_1 l2_1.length c2_1) ∧ w'.cell? ⟨gb483, 2, none⟩ = some (.slice A2_2 l2_2.length c2_2)) (ds := []) (bb_ 18 0) (by kernel_rfl) rfl rfl ⟨(blk_cell BK483.out 0).trans rfl, (blk_cell BK483.out 1).trans rfl, (blk_cell BK483.out 2).trans rfl⟩ (fun hHeld => ?_); refine with_tabW impl_CheckSig.tab1 impl_CheckSig.bits1 (fun HT_ HW_ => ?_)
  generalize w8.drew = w9 at BK483 HB hHeld ⊢
  refine tS_ 0 7 (bb_ 18 1) (take_ofW HT_.out HW_.out (by kernel_rfl)) hHeld ?_
  refine one_ (i := 1) (N := some 8) (bb_ 18 3) rfl rfl (one_of HT_.out (by kernel_rfl)) (by decide) (fun K hK => ?_)
  refine goes_ Tryd.func47 (by kernel_rfl) rfl #[.agg #[.int .i64 a2_0, .slice A2_1 l2_1.length c2_1, .slice A2_2 l2_2.length c2_2]] (by rfl) rfl rfl aM_ ?_
  with_reducible refine (impl_SigOk.calls k a2_0 _ _ l2_1 _ _ l2_2 true _ ?side1 ?side2 ?side3 ?side4 A4.out).mono ?_
  (case side1 => exact cR_ (Kd.C_below HR2_1.out HB.out))
  (case side2 => exact HC2_1.out)
  (case side3 => exact cR_ (Kd.C_below HR2_2.out HB.out))
  (case side4 => exact HC2_2.out)
  rintro e w10 ⟨rfl, hb⟩
  refine ⟨_, rfl, ?_⟩
  have n0_ := Aside0.mk (blk_below (g := gb483) (o := .cells #[.int .i64 a2_0, .slice A2_1 l2_1.length c2_1, .slice A2_2 l2_2.length c2_2] 42 (0, 0)) (rK_ BK483.out) hb)
  have n1_ := Aside0.mk (below_step (hS_ GE483.out) hb)
  clear BK483
  clear HB
  have BK483 := n0_
  have HB := n1_
  clear n0_ n1_
  (try clear hb)
  (try clear hb2)
  (try clear hk)
  (try clear hi)
  refine hK.out _ _ ⟨(blk_cell BK483.out 0).trans rfl, (blk_cell BK483.out 1).trans rfl, (blk_cell BK483.out 2).trans rfl⟩ (fun hHeld => ?_)
  clear hK K
  refine norm_ (a' := ?_) ?_ ?_
  rotate_left
  ·show Act.put _ (some 8) _ = _
   simp only [Act.put, List.setIfInBounds_toArray, List.set_cons_zero, List.set_cons_succ, i64_w, i32_w]
   rfl
  refine pS_ 2 9 (bb_ 18 7) HT_.out ?_
  refine pS_ 3 10 (bb_ 18 15) HT_.out ?_
  refine pS_ 5 12 (bb_ 18 47) HT_.out ?_
  refine pS_ 7 14 (bb_ 18 175) HT_.out ?_
  refine pS_ 9 16 (bb_ 18 687) HT_.out ?_
  refine pS_ 11 18 (bb_ 18 2735) HT_.out ?_
  refine pS_ 14 21 (bb_ 18 19119) HT_.out ?_
  refine tS_ 4 11 (bb_ 18 19135) (take_ofW HT_.out HW_.out (by kernel_rfl)) hHeld ?_
  refine tS_ 6 13 (bb_ 18 19199) (take_ofW HT_.out HW_.out (by kernel_rfl)) hHeld ?_
  refine tS_ 10 17 (bb_ 18 20223) (take_ofW HT_.out HW_.out (by kernel_rfl)) hHeld ?_
  refine tS_ 12 19 (bb_ 18 24319) (take_ofW HT_.out HW_.out (by kernel_rfl)) hHeld ?_
  refine one_ (i := 8) (N := some 15) (bb_ 18 24575) rfl rfl (one_of HT_.out (by kernel_rfl)) (by decide) (fun K hK => ?_)
  refine goes_ Tryd.func18 (by kernel_rfl) rfl #[.slice A2_1 l2_1.length c2_1, .int .i64 a2_0, .string a1] (by rfl) rfl rfl aM_ ?_
  with_reducible refine (impl_OnceFound.calls k _ _ l2_1 a2_0 a1 t485 _ ?side1 ?side2 A6.out (HLD.out.below HLD.out.pos (hS_ GE483.out))).mono ?_
  (case side1 => exact cR_ (Kd.C_below HR2_1.out HB.out))
  (case side2 => exact HC2_1.out)
  rintro e w11 ⟨rfl, hb⟩
  refine ⟨_, rfl, ?_⟩
  have n0_ := Aside0.mk (blk_below (g := gb483) (o := .cells #[.int .i64 a2_0, .slice A2_1 l2_1.length c2_1, .slice A2_2 l2_2.length c2_2] 42 (0, 0)) (rK_ BK483.out) hb)
  have n1_ := Aside0.mk (below_step (hS_ GE483.out) hb)
  clear BK483
  clear HB
  have BK483 := n0_
  have HB := n1_
  clear n0_ n1_
  (try clear hb)
  (try clear hb2)
  (try clear hk)
  (try clear hi)
  refine hK.out _ _ ⟨(blk_cell BK483.out 0).trans rfl, (blk_cell BK483.out 1).trans rfl, (blk_cell BK483.out 2).trans rfl⟩ (fun hHeld => ?_)
  clear hK K
  refine norm_ (a' := ?_) ?_ ?_
  rotate_left
  ·show Act.put _ (some 15) _ = _
   simp only [Act.put, List.setIfInBounds_toArray, List.set_cons_zero, List.set_cons_succ, i64_w, i32_w]
   rfl
  refine one_ (i := 13) (N := some 20) (bb_ 18 32767) rfl rfl (one_of HT_.out (by kernel_rfl)) (by decide) (fun K hK => ?_)
  refine goes_ Tryd.func86 (by kernel_rfl) rfl #[.string t485, .int .i64 a2_0, .slice A2_2 l2_2.length c2_2] (by rfl) rfl rfl aM_ ?_
  with_reducible refine (impl_RootBy.calls k t485 a2_0 _ _ l2_2 t486 _ ?side1 ?side2 A7.out (HLD.out.below HLD.out.pos (hS_ GE483.out))).mono ?_
  (case side1 => exact cR_ (Kd.C_below HR2_2.out HB.out))
  (case side2 => exact HC2_2.out)
  rintro e w12 ⟨rfl, hb⟩
  refine ⟨_, rfl, ?_⟩
  have n0_ := Aside0.mk (blk_below (g := gb483) (o := .cells #[.int .i64 a2_0, .slice A2_1 l2_1.length c2_1, .slice A2_2 l2_2.length c2_2] 42 (0, 0)) (rK_ BK483.out) hb)
  have n1_ := Aside0.mk (below_step (hS_ GE483.out) hb)
  clear BK483
  clear HB
  have BK483 := n0_
  have HB := n1_
  clear n0_ n1_
  (try clear hb)
  (try clear hb2)
  (try clear hk)
  (try clear hi)
  refine hK.out _ _ ⟨(blk_cell BK483.out 0).trans rfl, (blk_cell BK483.out 1).trans rfl, (blk_cell BK483.out 2).trans rfl⟩ (fun hHeld => ?_)
  clear hK K
  refine norm_ (a' := ?_) ?_ ?_
  rotate_left
  ·show Act.put _ (some 20) _ = _
   simp only [Act.put, List.setIfInBounds_toArray, List.set_cons_zero, List.set_cons_succ, i64_w, i32_w]
   rfl
  refine pS_ 15 22 (bb_ 18 65535) HT_.out ?_
  refine pS_ 16 23 (bb_ 18 131071) HT_.out ?_
  refine pS_ 17 6 (bb_ 18 262143) HT_.out ?_
  refine done_ (done_of HT_.out (by kernel_rfl)) ?_
  try go_wp2
  go_ret
  exact ⟨by first | rfl | (simp [errW_none, errW_some] <;> rfl) | (simp [*, errW_none, errW_some] <;> rfl), hS_ GE483.out⟩
 ·replace c5 := Bool.eq_false_iff.mpr c5
  subst c5
  have H1 : (some false) = some r := by rw [if_neg (show ¬ (false = true) by decide)] at H; exact H
  clear H
  have H := H1
  clear H1
  obtain rfl := Option.some.inj H
  go_enter Tryd.func31, Tryd.ntmps31
  try go_wp2_with (first | ((with_reducible refine gate_dst (N := 5) rfl ?_); refine box_event ?hg (N := 5) ?hd (cs := #[.int .i64 a2_0, .slice A2_1 l2_1.length c2_1, .slice A2_2 l2_2.length c2_2]) (t := 42) ?hr ?_; (case hd => rfl); (case hg => rfl); (case hr => first | (go_simp; done) | (go_simp; rfl)); intro gb483 hg w13 hbox hb; have n0_ := Aside0.mk (below_step (hB_) hb); have n1_ := Aside0.mk (hbox); have n2_ := Aside0.mk ((by rw [hg]; exact (below_size (hB_)) : w.heap.size ≤ gb483)); have n3_ := Aside0.mk ((by rw [hg]; exact (below_size (hB_)) : w.heap.size ≤ gb483)); replace HB := n0_; have BK483 := n1_; have GW483 := n2_; have GE483 := n3_; clear n0_ n1_ n2_ n3_; clear hb hbox hg))
  have n0_ := Aside0.mk (blk_drew BK483.out)
  have n1_ := Aside0.mk (below_drew1 HB.out)
  clear BK483
  clear HB
  have BK483 := n0_
  have HB := n1_
  clear n0_ n1_
  refine start_ (n := 18) (S := fun w' => w'.cell? ⟨gb483, 0, none⟩ = some (.int .i64 a2_0) ∧ w'.cell? ⟨gb483, 1, none⟩ = some (.slice A2_1 l2_1.length c2_1) ∧ w'.cell? ⟨gb483, 2, none⟩ = some (.slice A2_2 l2_2.length c2_2)) (ds := []) (bb_ 18 0) (by kernel_rfl) rfl rfl ⟨(blk_cell BK483.out 0).trans rfl, (blk_cell BK483.out 1).trans rfl, (blk_cell BK483.out 2).trans rfl⟩ (fun hHeld => ?_); refine with_tabW impl_CheckSig.tab1 impl_CheckSig.bits1 (fun HT_ HW_ => ?_)
  generalize w13.drew = w14 at BK483 HB hHeld ⊢
  refine tS_ 0 7 (bb_ 18 1) (take_ofW HT_.out HW_.out (by kernel_rfl)) hHeld ?_
  refine one_ (i := 1) (N := some 8) (bb_ 18 3) rfl rfl (one_of HT_.out (by kernel_rfl)) (by decide) (fun K hK => ?_)
  refine goes_ Tryd.func47 (by kernel_rfl) rfl #[.agg #[.int .i64 a2_0, .slice A2_1 l2_1.length c2_1, .slice A2_2 l2_2.length c2_2]] (by rfl) rfl rfl aM_ ?_
  with_reducible refine (impl_SigOk.calls k a2_0 _ _ l2_1 _ _ l2_2 false _ ?side1 ?side2 ?side3 ?side4 A4.out).mono ?_
  (case side1 => exact cR_ (Kd.C_below HR2_1.out HB.out))
  (case side2 => exact HC2_1.out)
  (case side3 => exact cR_ (Kd.C_below HR2_2.out HB.out))
  (case side4 => exact HC2_2.out)
  rintro e w15 ⟨rfl, hb⟩
  refine ⟨_, rfl, ?_⟩
  have n0_ := Aside0.mk (blk_below (g := gb483) (o := .cells #[.int .i64 a2_0, .slice A2_1 l2_1.length c2_1, .slice A2_2 l2_2.length c2_2] 42 (0, 0)) (rK_ BK483.out) hb)
  have n1_ := Aside0.mk (below_step (hS_ GE483.out) hb)
  clear BK483
  clear HB
  have BK483 := n0_
  have HB := n1_
  clear n0_ n1_
  (try clear hb)
  (try clear hb2)
  (try clear hk)
  (try clear hi)
  refine hK.out _ _ ⟨(blk_cell BK483.out 0).trans rfl, (blk_cell BK483.out 1).trans rfl, (blk_cell BK483.out 2).trans rfl⟩ (fun hHeld => ?_)
  clear hK K
  refine norm_ (a' := ?_) ?_ ?_
  rotate_left
  ·show Act.put _ (some 8) _ = _
   simp only [Act.put, List.setIfInBounds_toArray, List.set_cons_zero, List.set_cons_succ, i64_w, i32_w]
   rfl
  refine pS_ 2 9 (bb_ 18 7) HT_.out ?_
  refine pU_ 3 10 (bb_ 18 15) HT_.out ?_
  refine pU_ 4 11 (bb_ 18 31) HT_.out ?_
  refine pU_ 5 12 (bb_ 18 63) HT_.out ?_
  refine pU_ 6 13 (bb_ 18 127) HT_.out ?_
  refine pU_ 7 14 (bb_ 18 255) HT_.out ?_
  refine pU_ 8 15 (bb_ 18 511) HT_.out ?_
  refine pU_ 9 16 (bb_ 18 1023) HT_.out ?_
  refine pU_ 10 17 (bb_ 18 2047) HT_.out ?_
  refine pU_ 11 18 (bb_ 18 4095) HT_.out ?_
  refine pU_ 12 19 (bb_ 18 8191) HT_.out ?_
  refine pU_ 13 20 (bb_ 18 16383) HT_.out ?_
  refine pU_ 14 21 (bb_ 18 32767) HT_.out ?_
  refine pU_ 15 22 (bb_ 18 65535) HT_.out ?_
  refine pS_ 16 23 (bb_ 18 131071) HT_.out ?_
  refine pS_ 17 6 (bb_ 18 262143) HT_.out ?_
  refine done_ (done_of HT_.out (by kernel_rfl)) ?_
  try go_wp2
  go_ret
  exact ⟨by first | rfl | (simp [errW_none, errW_some] <;> rfl) | (simp [*, errW_none, errW_some] <;> rfl), hS_ GE483.out⟩

end Go.Proofs.YtjcmafoepabpkaaDoor.P
