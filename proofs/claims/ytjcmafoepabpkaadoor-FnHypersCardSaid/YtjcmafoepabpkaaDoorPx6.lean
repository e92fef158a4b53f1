-- printed texts of this session, regrouped
import Derived.Test.YtjcmafoepabpkaaDoorMW7
import Derived.Test.YtjcmafoepabpkaaDoorMW6
import Derived.Test.YtjcmafoepabpkaaDoorHA6
import Derived.Test.YtjcmafoepabpkaaDoorPx0
import Derived.Test.YtjcmafoepabpkaaDoorPx2
import Derived.Test.YtjcmafoepabpkaaDoorPx5
namespace Go.Proofs.YtjcmafoepabpkaaDoor.P
open Go.RowKit Go.Proofs.YtjcmafoepabpkaaDoorW.PrintWords Go.Proofs.YtjcmafoepabpkaaDoorW.PrintLast Go.Proofs.YtjcmafoepabpkaaDoorW.PrintMore
attribute [local go_sem] max2_int min2_int max_two min_two max_three min_three max_four min_four   -- for this text's walks alone
set_option linter.unusedVariables false
set_option linter.unusedSimpArgs false
set_option maxHeartbeats 8000000
set_option maxRecDepth 100000

/-! ### impl_CheckSig: function 31 -/
def impl_CheckSig.f (k : Nat) (a0 : ByteArray) (a1 : ByteArray) (a2_0 : Int) (l2_1 : List ByteArray) (l2_2 : List ByteArray) : Option (Bool) := (impl_SigOk.f k a2_0 l2_1 l2_2).bind fun t336 => (if t336 = true then ((impl_OnceFound.f k l2_1 a2_0 a1).bind fun t337 => ((impl_RootBy.f k t337 a2_0 l2_2).bind fun t338 => (some (t338.toList == a0.toList)))) else (some false))
theorem impl_CheckSig.mono : ∀ a0 a1 a2 a3 a4 k, LeO (impl_CheckSig.f k a0 a1 a2 a3 a4) (impl_CheckSig.f (k + 1) a0 a1 a2 a3 a4) := by
 intro a0 a1 a2 a3 a4 k
 unfold impl_CheckSig.f
 repeat' first
   | (with_reducible exact impl_OnceFound.mono _ _ _ _)
   | (with_reducible exact impl_RootBy.mono _ _ _ _)
   | (with_reducible exact impl_SigOk.mono _ _ _ _)
   | (with_reducible exact LeO.refl _)
   | (with_reducible exact LeO.none _)
   | (with_reducible refine LeO.ite ?_ ?_)
   | (with_reducible refine LeO.bind ?_ (fun _ => ?_))
   | exact impl_OnceFound.mono _ _ _ _
   | exact impl_RootBy.mono _ _ _ _
   | exact impl_SigOk.mono _ _ _ _
   | exact LeO.none _
   | refine LeO.ite ?_ ?_
   | refine LeO.bind ?_ (fun _ => ?_)
def impl_CheckSig.T1 : Bool × List (List Nat × List Nat) := (true, [([], []), ([0], [0]), ([1, 1], [1]), ([2], [2]), ([3, 2], [2, 3]), ([2], [2]), ([5, 2], [2, 5]), ([2], [2]), ([4, 6, 7, 2, 2], [2, 4, 6, 7]), ([2], [2]), ([9, 2], [2, 9]), ([2], [2]), ([11, 2], [2, 11]), ([8, 10, 12, 8, 2], [2, 8, 10, 12]), ([2], [2]), ([13, 14, 2], [2, 13, 14]), ([2, 15], [2, 15]), ([16, 13, 0, 1, 2, 3, 4, 5, 6, 7, 8, 9, 10, 11, 12, 13, 14, 15, 16], [16])])
def impl_CheckSig.B1 : List Nat := [0, 1, 3, 7, 15, 7, 39, 7, 255, 7, 519, 7, 2055, 8191, 7, 32767, 65535, 131071]
theorem impl_CheckSig.tab1 : rtab .any (opsOf Tryd.f31 1) = impl_CheckSig.T1 := by kernel_rfl
theorem impl_CheckSig.bits1 : waitsOk impl_CheckSig.T1.2 impl_CheckSig.B1 = true := by kernel_rfl
theorem impl_CheckSig.calls (k : Nat) (a0 : ByteArray) (a1 : ByteArray) (a2_0 : Int) (A2_1 : Option Addr) (c2_1 : Nat) (l2_1 : List ByteArray) (A2_2 : Option Addr) (c2_2 : Nat) (l2_2 : List ByteArray) (r : Bool) (w : World) (hr2_1 : Kd.C Kd.string w A2_1 l2_1.length l2_1) (hc2_1 : l2_1.length ≤ c2_1) (hr2_2 : Kd.C Kd.string w A2_2 l2_2.length l2_2) (hc2_2 : l2_2.length ≤ c2_2) (h : impl_CheckSig.f k a0 a1 a2_0 l2_1 l2_2 = some r) (hLD : Laid w) :
  Calls Tryd.prog 31 #[.string a0, .string a1, .agg #[.int .i64 a2_0, .slice A2_1 l2_1.length c2_1, .slice A2_2 l2_2.length c2_2]] w fun e w' => e = .returned (.bool r) ∧ Below w.heap.size w w' := by
 have HLD := Aside0.mk hLD
 clear hLD
 have hu42 := Tryd.underlying42
 have HR2_1 := Aside0.mk hr2_1
 have HC2_1 := Aside0.mk hc2_1
 clear hr2_1 hc2_1
 have HR2_2 := Aside0.mk hr2_2
 have HC2_2 := Aside0.mk hc2_2
 clear hr2_2 hc2_2
 have HB := Aside0.mk (Below.refl w.heap.size w)
 have H : ((impl_SigOk.f k a2_0 l2_1 l2_2).bind fun t336 => (if t336 = true then ((impl_OnceFound.f k l2_1 a2_0 a1).bind fun t337 => ((impl_RootBy.f k t337 a2_0 l2_2).bind fun t338 => (some (t338.toList == a0.toList)))) else (some false))) = some r := h
 clear h
 replace H := Option.bind_eq_some_iff.mp H
 obtain ⟨t336, A40, H⟩ := H
 try dsimp -simprocs only at H
 have A4 := Aside0.mk A40
 clear A40
 by_cases c5 : t336 = true
 ·subst c5
  have H1 : ((impl_OnceFound.f k l2_1 a2_0 a1).bind fun t337 => ((impl_RootBy.f k t337 a2_0 l2_2).bind fun t338 => (some (t338.toList == a0.toList)))) = some r := by rw [if_pos rfl] at H; exact H
  clear H
  have H := H1
  clear H1
  replace H := Option.bind_eq_some_iff.mp H
  obtain ⟨t337, A60, H⟩ := H
  try dsimp -simprocs only at H
  have A6 := Aside0.mk A60
  clear A60
  replace H := Option.bind_eq_some_iff.mp H
  obtain ⟨t338, A70, H⟩ := H
  try dsimp -simprocs only at H
  have A7 := Aside0.mk A70
  clear A70
  obtain rfl := Option.some.inj H
  go_enter Tryd.func31, Tryd.ntmps31
  try go_wp2_with (first | ((with_reducible refine gate_dst (N := 5) rfl ?_); refine box_event ?hg (N := 5) ?hd (cs := #[.int .i64 a2_0, .slice A2_1 l2_1.length c2_1, .slice A2_2 l2_2.length c2_2]) (t := 42) ?hr ?_; (case hd => rfl); (case hg => rfl); (case hr => first | (go_simp; done) | (go_simp; rfl)); intro gb335 hg w8 hbox hb; have n0_ := Aside0.mk (below_step (hB_) hb); have n1_ := Aside0.mk (hbox); have n2_ := Aside0.mk ((by rw [hg]; exact (below_size (hB_)) : w.heap.size ≤ gb335)); have n3_ := Aside0.mk ((by rw [hg]; exact (below_size (hB_)) : w.heap.size ≤ gb335)); replace HB := n0_; have BK335 := n1_; have GW335 := n2_; have GE335 := n3_; clear n0_ n1_ n2_ n3_; clear hb hbox hg))
  have n0_ := Aside0.mk (blk_drew BK335.out)
  have n1_ := Aside0.mk (below_drew1 HB.out)
  clear BK335
  clear HB
  have BK335 := n0_
  have HB := n1_
  clear n0_ n1_
  refine start_ (n := 18) (S := fun w' => w'.cell? ⟨gb335, 0, none⟩ = some (.int .i64 a2_0) ∧ w'.cell? ⟨gb335, 1, none⟩ = some (.slice A2_1 l2_1.length c2_1) ∧ w'.cell? ⟨gb335, 2, none⟩ = some (.slice A2_2 l2_2.length c2_2)) (ds := []) (bb_ 18 0) (by kernel_rfl) rfl rfl ⟨(blk_cell BK335.out 0).trans rfl, (blk_cell BK335.out 1).trans rfl, (blk_cell BK335.out 2).trans rfl⟩ (fun hHeld => ?_); refine with_tabW impl_CheckSig.tab1 impl_CheckSig.bits1 (fun HT_ HW_ => ?_)
  generalize w8.drew = w9 at BK335 HB hHeld ⊢
  refine tS_ 0 7 (bb_ 18 1) (take_ofW HT_.out HW_.out (by kernel_rfl)) hHeld ?_
  refine one_ (i := 1) (N := some 8) (bb_ 18 3) rfl rfl (one_of HT_.out (by kernel_rfl)) (by decide) (fun K hK => ?_)
  refine goes_ Tryd.func47 (by kernel_rfl) rfl #[.agg #[.int .i64 a2_0, .slice A2_1 l2_1.length c2_1, .slice A2_2 l2_2.length c2_2]] (by rfl) rfl rfl aM_ ?_
  with_reducible refine (impl_SigOk.calls k a2_0 _ _ l2_1 _ _ l2_2 true _ ?side1 ?side2 ?side3 ?side4 A4.out).mono ?_
  (case side1 => exact cR_ (Kd.C_below HR2_1.out HB.out))
  (case side2 => exact HC2_1.out)
  (case side3 => exact cR_ (Kd.C_below HR2_2.out HB.out))
  (case side4 => exact HC2_2.out)
  rintro e w10 ⟨rfl, hb⟩
  refine ⟨_, rfl, ?_⟩
  have n0_ := Aside0.mk (blk_below (g := gb335) (o := .cells #[.int .i64 a2_0, .slice A2_1 l2_1.length c2_1, .slice A2_2 l2_2.length c2_2] 42 (0, 0)) (rK_ BK335.out) hb)
  have n1_ := Aside0.mk (below_step (hS_ GE335.out) hb)
  clear BK335
  clear HB
  have BK335 := n0_
  have HB := n1_
  clear n0_ n1_
  (try clear hb)
  (try clear hb2)
  (try clear hk)
  (try clear hi)
  refine hK.out _ _ ⟨(blk_cell BK335.out 0).trans rfl, (blk_cell BK335.out 1).trans rfl, (blk_cell BK335.out 2).trans rfl⟩ (fun hHeld => ?_)
  clear hK K
  refine norm_ (a' := ?_) ?_ ?_
  rotate_left
  ·show Act.put _ (some 8) _ = _
   simp only [Act.put, List.setIfInBounds_toArray, List.set_cons_zero, List.set_cons_succ, i64_w, i32_w]
   rfl
  refine pS_ 2 9 (bb_ 18 7) HT_.out ?_
  refine pS_ 3 10 (bb_ 18 15) HT_.out ?_
  refine pS_ 5 12 (bb_ 18 47) HT_.out ?_
  refine pS_ 7 14 (bb_ 18 175) HT_.out ?_
  refine pS_ 9 16 (bb_ 18 687) HT_.out ?_
  refine pS_ 11 18 (bb_ 18 2735) HT_.out ?_
  refine pS_ 14 21 (bb_ 18 19119) HT_.out ?_
  refine tS_ 4 11 (bb_ 18 19135) (take_ofW HT_.out HW_.out (by kernel_rfl)) hHeld ?_
  refine tS_ 6 13 (bb_ 18 19199) (take_ofW HT_.out HW_.out (by kernel_rfl)) hHeld ?_
  refine tS_ 10 17 (bb_ 18 20223) (take_ofW HT_.out HW_.out (by kernel_rfl)) hHeld ?_
  refine tS_ 12 19 (bb_ 18 24319) (take_ofW HT_.out HW_.out (by kernel_rfl)) hHeld ?_
  refine one_ (i := 8) (N := some 15) (bb_ 18 24575) rfl rfl (one_of HT_.out (by kernel_rfl)) (by decide) (fun K hK => ?_)
  refine goes_ Tryd.func18 (by kernel_rfl) rfl #[.slice A2_1 l2_1.length c2_1, .int .i64 a2_0, .string a1] (by rfl) rfl rfl aM_ ?_
  with_reducible refine (impl_OnceFound.calls k _ _ l2_1 a2_0 a1 t337 _ ?side1 ?side2 A6.out (HLD.out.below HLD.out.pos (hS_ GE335.out))).mono ?_
  (case side1 => exact cR_ (Kd.C_below HR2_1.out HB.out))
  (case side2 => exact HC2_1.out)
  rintro e w11 ⟨rfl, hb⟩
  refine ⟨_, rfl, ?_⟩
  have n0_ := Aside0.mk (blk_below (g := gb335) (o := .cells #[.int .i64 a2_0, .slice A2_1 l2_1.length c2_1, .slice A2_2 l2_2.length c2_2] 42 (0, 0)) (rK_ BK335.out) hb)
  have n1_ := Aside0.mk (below_step (hS_ GE335.out) hb)
  clear BK335
  clear HB
  have BK335 := n0_
  have HB := n1_
  clear n0_ n1_
  (try clear hb)
  (try clear hb2)
  (try clear hk)
  (try clear hi)
  refine hK.out _ _ ⟨(blk_cell BK335.out 0).trans rfl, (blk_cell BK335.out 1).trans rfl, (blk_cell BK335.out 2).trans rfl⟩ (fun hHeld => ?_)
  clear hK K
  refine norm_ (a' := ?_) ?_ ?_
  rotate_left
  ·show Act.put _ (some 15) _ = _
   simp only [Act.put, List.setIfInBounds_toArray, List.set_cons_zero, List.set_cons_succ, i64_w, i32_w]
   rfl
  refine one_ (i := 13) (N := some 20) (bb_ 18 32767) rfl rfl (one_of HT_.out (by kernel_rfl)) (by decide) (fun K hK => ?_)
  refine goes_ Tryd.func86 (by kernel_rfl) rfl #[.string t337, .int .i64 a2_0, .slice A2_2 l2_2.length c2_2] (by rfl) rfl rfl aM_ ?_
  with_reducible refine (impl_RootBy.calls k t337 a2_0 _ _ l2_2 t338 _ ?side1 ?side2 A7.out (HLD.out.below HLD.out.pos (hS_ GE335.out))).mono ?_
  (case side1 => exact cR_ (Kd.C_below HR2_2.out HB.out))
  (case side2 => exact HC2_2.out)
  rintro e w12 ⟨rfl, hb⟩
  refine ⟨_, rfl, ?_⟩
  have n0_ := Aside0.mk (blk_below (g := gb335) (o := .cells #[.int .i64 a2_0, .slice A2_1 l2_1.length c2_1, .slice A2_2 l2_2.length c2_2] 42 (0, 0)) (rK_ BK335.out) hb)
  have n1_ := Aside0.mk (below_step (hS_ GE335.out) hb)
  clear BK335
  clear HB
  have BK335 := n0_
  have HB := n1_
  clear n0_ n1_
  (try clear hb)
  (try clear hb2)
  (try clear hk)
  (try clear hi)
  refine hK.out _ _ ⟨(blk_cell BK335.out 0).trans rfl, (blk_cell BK335.out 1).trans rfl, (blk_cell BK335.out 2).trans rfl⟩ (fun hHeld => ?_)
  clear hK K
  refine norm_ (a' := ?_) ?_ ?_
  rotate_left
  ·show Act.put _ (some 20) _ = _
   simp only [Act.put, List.setIfInBounds_toArray, List.set_cons_zero, List.set_cons_succ, i64_w, i32_w]
   rfl
  refine pS_ 15 22 (bb_ 18 65535) HT_.out ?_
  refine pS_ 16 23 (bb_ 18 131071) HT_.out ?_
  refine pS_ 17 6 (bb_ 18 262143) HT_.out ?_
  refine done_ (done_of HT_.out (by kernel_rfl)) ?_
  try go_wp2
  go_ret
  exact ⟨by first | rfl | (simp [errW_none, errW_some] <;> rfl) | (simp [*, errW_none, errW_some] <;> rfl), hS_ GE335.out⟩
 ·replace c5 := Bool.eq_false_iff.mpr c5
  subst c5
  have H1 : (some false) = some r := by rw [if_neg (show ¬ (false = true) by decide)] at H; exact H
  clear H
  have H := H1
  clear H1
  obtain rfl := Option.some.inj H
  go_enter Tryd.func31, Tryd.ntmps31
  try go_wp2_with (first | ((with_reducible refine gate_dst (N := 5) rfl ?_); refine box_event ?hg (N := 5) ?hd (cs := #[.int .i64 a2_0, .slice A2_1 l2_1.length c2_1, .slice A2_2 l2_2.length c2_2]) (t := 42) ?hr ?_; (case hd => rfl); (case hg => rfl); (case hr => first | (go_simp; done) | (go_simp; rfl)); intro gb335 hg w13 hbox hb; have n0_ := Aside0.mk (below_step (hB_) hb); have n1_ := Aside0.mk (hbox); have n2_ := Aside0.mk ((by rw [hg]; exact (below_size (hB_)) : w.heap.size ≤ gb335)); have n3_ := Aside0.mk ((by rw [hg]; exact (below_size (hB_)) : w.heap.size ≤ gb335)); replace HB := n0_; have BK335 := n1_; have GW335 := n2_; have GE335 := n3_; clear n0_ n1_ n2_ n3_; clear hb hbox hg))
  have n0_ := Aside0.mk (blk_drew BK335.out)
  have n1_ := Aside0.mk (below_drew1 HB.out)
  clear BK335
  clear HB
  have BK335 := n0_
  have HB := n1_
  clear n0_ n1_
  refine start_ (n := 18) (S := fun w' => w'.cell? ⟨gb335, 0, none⟩ = some (.int .i64 a2_0) ∧ w'.cell? ⟨gb335, 1, none⟩ = some (.slice A2_1 l2_1.length c2_1) ∧ w'.cell? ⟨gb335, 2, none⟩ = some (.slice A2_2 l2_2.length c2_2)) (ds := []) (bb_ 18 0) (by kernel_rfl) rfl rfl ⟨(blk_cell BK335.out 0).trans rfl, (blk_cell BK335.out 1).trans rfl, (blk_cell BK335.out 2).trans rfl⟩ (fun hHeld => ?_); refine with_tabW impl_CheckSig.tab1 impl_CheckSig.bits1 (fun HT_ HW_ => ?_)
  generalize w13.drew = w14 at BK335 HB hHeld ⊢
  refine tS_ 0 7 (bb_ 18 1) (take_ofW HT_.out HW_.out (by kernel_rfl)) hHeld ?_
  refine one_ (i := 1) (N := some 8) (bb_ 18 3) rfl rfl (one_of HT_.out (by kernel_rfl)) (by decide) (fun K hK => ?_)
  refine goes_ Tryd.func47 (by kernel_rfl) rfl #[.agg #[.int .i64 a2_0, .slice A2_1 l2_1.length c2_1, .slice A2_2 l2_2.length c2_2]] (by rfl) rfl rfl aM_ ?_
  with_reducible refine (impl_SigOk.calls k a2_0 _ _ l2_1 _ _ l2_2 false _ ?side1 ?side2 ?side3 ?side4 A4.out).mono ?_
  (case side1 => exact cR_ (Kd.C_below HR2_1.out HB.out))
  (case side2 => exact HC2_1.out)
  (case side3 => exact cR_ (Kd.C_below HR2_2.out HB.out))
  (case side4 => exact HC2_2.out)
  rintro e w15 ⟨rfl, hb⟩
  refine ⟨_, rfl, ?_⟩
  have n0_ := Aside0.mk (blk_below (g := gb335) (o := .cells #[.int .i64 a2_0, .slice A2_1 l2_1.length c2_1, .slice A2_2 l2_2.length c2_2] 42 (0, 0)) (rK_ BK335.out) hb)
  have n1_ := Aside0.mk (below_step (hS_ GE335.out) hb)
  clear BK335
  clear HB
  have BK335 := n0_
  have HB := n1_
  clear n0_ n1_
  (try clear hb)
  (try clear hb2)
  (try clear hk)
  (try clear hi)
  refine hK.out _ _ ⟨(blk_cell BK335.out 0).trans rfl, (blk_cell BK335.out 1).trans rfl, (blk_cell BK335.out 2).trans rfl⟩ (fun hHeld => ?_)
  clear hK K
  refine norm_ (a' := ?_) ?_ ?_
  rotate_left
  ·show Act.put _ (some 8) _ = _
   simp only [Act.put, List.setIfInBounds_toArray, List.set_cons_zero, List.set_cons_succ, i64_w, i32_w]
   rfl
  refine pS_ 2 9 (bb_ 18 7) HT_.out ?_
  refine pU_ 3 10 (bb_ 18 15) HT_.out ?_
  refine pU_ 4 11 (bb_ 18 31) HT_.out ?_
  refine pU_ 5 12 (bb_ 18 63) HT_.out ?_
  refine pU_ 6 13 (bb_ 18 127) HT_.out ?_
  refine pU_ 7 14 (bb_ 18 255) HT_.out ?_
  refine pU_ 8 15 (bb_ 18 511) HT_.out ?_
  refine pU_ 9 16 (bb_ 18 1023) HT_.out ?_
  refine pU_ 10 17 (bb_ 18 2047) HT_.out ?_
  refine pU_ 11 18 (bb_ 18 4095) HT_.out ?_
  refine pU_ 12 19 (bb_ 18 8191) HT_.out ?_
  refine pU_ 13 20 (bb_ 18 16383) HT_.out ?_
  refine pU_ 14 21 (bb_ 18 32767) HT_.out ?_
  refine pU_ 15 22 (bb_ 18 65535) HT_.out ?_
  refine pS_ 16 23 (bb_ 18 131071) HT_.out ?_
  refine pS_ 17 6 (bb_ 18 262143) HT_.out ?_
  refine done_ (done_of HT_.out (by kernel_rfl)) ?_
  try go_wp2
  go_ret
  exact ⟨by first | rfl | (simp [errW_none, errW_some] <;> rfl) | (simp [*, errW_none, errW_some] <;> rfl), hS_ GE335.out⟩

/-! ### impl_HyperCheck: function 36 -/
def impl_HyperCheck.f (k : Nat) (a0 : ByteArray) (a1 : ByteArray) (a2_0 : Int) (l2_1 : List ByteArray) (l2_2 : List ByteArray) (a2_3 : ByteArray) (a2_4 : Int) (l2_5 : List ByteArray) (l2_6 : List ByteArray) : Option (Bool) := (impl_CheckSig.f k a0 a2_3 a2_0 l2_1 l2_2).bind fun t340 => (if t340 = true then ((impl_CheckSig.f k a2_3 a1 a2_4 l2_5 l2_6).bind fun t341 => (some t341)) else (some false))
theorem impl_HyperCheck.mono : ∀ a0 a1 a2 a3 a4 a5 a6 a7 a8 k, LeO (impl_HyperCheck.f k a0 a1 a2 a3 a4 a5 a6 a7 a8) (impl_HyperCheck.f (k + 1) a0 a1 a2 a3 a4 a5 a6 a7 a8) := by
 intro a0 a1 a2 a3 a4 a5 a6 a7 a8 k
 unfold impl_HyperCheck.f
 repeat' first
   | (with_reducible exact impl_CheckSig.mono _ _ _ _ _ _)
   | (with_reducible exact LeO.refl _)
   | (with_reducible exact LeO.none _)
   | (with_reducible refine LeO.ite ?_ ?_)
   | (with_reducible refine LeO.bind ?_ (fun _ => ?_))
   | exact impl_CheckSig.mono _ _ _ _ _ _
   | exact LeO.none _
   | refine LeO.ite ?_ ?_
   | refine LeO.bind ?_ (fun _ => ?_)
theorem impl_HyperCheck.calls (k : Nat) (a0 : ByteArray) (a1 : ByteArray) (a2_0 : Int) (A2_1 : Option Addr) (c2_1 : Nat) (l2_1 : List ByteArray) (A2_2 : Option Addr) (c2_2 : Nat) (l2_2 : List ByteArray) (a2_3 : ByteArray) (a2_4 : Int) (A2_5 : Option Addr) (c2_5 : Nat) (l2_5 : List ByteArray) (A2_6 : Option Addr) (c2_6 : Nat) (l2_6 : List ByteArray) (r : Bool) (w : World) (hr2_1 : Kd.C Kd.string w A2_1 l2_1.length l2_1) (hc2_1 : l2_1.length ≤ c2_1) (hr2_2 : Kd.C Kd.string w A2_2 l2_2.length l2_2) (hc2_2 : l2_2.length ≤ c2_2) (hr2_5 : Kd.C Kd.string w A2_5 l2_5.length l2_5) (hc2_5 : l2_5.length ≤ c2_5) (hr2_6 : Kd.C Kd.string w A2_6 l2_6.length l2_6) (hc2_6 : l2_6.length ≤ c2_6) (h : impl_HyperCheck.f k a0 a1 a2_0 l2_1 l2_2 a2_3 a2_4 l2_5 l2_6 = some r) (hLD : Laid w) :
  Calls Tryd.prog 36 #[.string a0, .string a1, .agg #[.int .i64 a2_0, .slice A2_1 l2_1.length c2_1, .slice A2_2 l2_2.length c2_2, .string a2_3, .int .i64 a2_4, .slice A2_5 l2_5.length c2_5, .slice A2_6 l2_6.length c2_6]] w fun e w' => e = .returned (.bool r) ∧ Below w.heap.size w w' := by
 have HLD := Aside0.mk hLD
 clear hLD
 have hu51 := Tryd.underlying51
 have hu42 := Tryd.underlying42
 have HR2_1 := Aside0.mk hr2_1
 have HC2_1 := Aside0.mk hc2_1
 clear hr2_1 hc2_1
 have HR2_2 := Aside0.mk hr2_2
 have HC2_2 := Aside0.mk hc2_2
 clear hr2_2 hc2_2
 have HR2_5 := Aside0.mk hr2_5
 have HC2_5 := Aside0.mk hc2_5
 clear hr2_5 hc2_5
 have HR2_6 := Aside0.mk hr2_6
 have HC2_6 := Aside0.mk hc2_6
 clear hr2_6 hc2_6
 have HB := Aside0.mk (Below.refl w.heap.size w)
 have H : ((impl_CheckSig.f k a0 a2_3 a2_0 l2_1 l2_2).bind fun t340 => (if t340 = true then ((impl_CheckSig.f k a2_3 a1 a2_4 l2_5 l2_6).bind fun t341 => (some t341)) else (some false))) = some r := h
 clear h
 replace H := Option.bind_eq_some_iff.mp H
 obtain ⟨t340, A40, H⟩ := H
 try dsimp -simprocs only at H
 have A4 := Aside0.mk A40
 clear A40
 by_cases c5 : t340 = true
 ·subst c5
  have H1 : ((impl_CheckSig.f k a2_3 a1 a2_4 l2_5 l2_6).bind fun t341 => (some t341)) = some r := by rw [if_pos rfl] at H; exact H
  clear H
  have H := H1
  clear H1
  replace H := Option.bind_eq_some_iff.mp H
  obtain ⟨t341, A60, H⟩ := H
  try dsimp -simprocs only at H
  have A6 := Aside0.mk A60
  clear A60
  obtain rfl := Option.some.inj H
  go_enter Tryd.func36, Tryd.ntmps36
  go_wp2_with (first | ((with_reducible refine gate_dst (N := 5) rfl ?_); refine box_event ?hg (N := 5) ?hd (cs := #[.int .i64 a2_0, .slice A2_1 l2_1.length c2_1, .slice A2_2 l2_2.length c2_2, .string a2_3, .int .i64 a2_4, .slice A2_5 l2_5.length c2_5, .slice A2_6 l2_6.length c2_6]) (t := 51) ?hr ?_; (case hd => rfl); (case hg => rfl); (case hr => first | (go_simp; done) | (go_simp; rfl)); intro gb339 hg w7 hbox hb; have n0_ := Aside0.mk (below_step (hB_) hb); have n1_ := Aside0.mk (hbox); have n2_ := Aside0.mk ((by rw [hg]; exact (below_size (hB_)) : w.heap.size ≤ gb339)); have n3_ := Aside0.mk ((by rw [hg]; exact (below_size (hB_)) : w.heap.size ≤ gb339)); replace HB := n0_; have BK339 := n1_; have GW339 := n2_; have GE339 := n3_; clear n0_ n1_ n2_ n3_; clear hb hbox hg; have hcz8_0 : w7.cell? ⟨gb339, 0, none⟩ = some (.int .i64 a2_0) := (blk_cell BK339.out 0).trans rfl; have hcz8_1 : w7.cell? ⟨gb339, 1, none⟩ = some (.slice A2_1 l2_1.length c2_1) := (blk_cell BK339.out 1).trans rfl; have hcz8_2 : w7.cell? ⟨gb339, 2, none⟩ = some (.slice A2_2 l2_2.length c2_2) := (blk_cell BK339.out 2).trans rfl; have hcz8_3 : w7.cell? ⟨gb339, 3, none⟩ = some (.string a2_3) := (blk_cell BK339.out 3).trans rfl; have hcz8_4 : w7.cell? ⟨gb339, 4, none⟩ = some (.int .i64 a2_4) := (blk_cell BK339.out 4).trans rfl; have hcz8_5 : w7.cell? ⟨gb339, 5, none⟩ = some (.slice A2_5 l2_5.length c2_5) := (blk_cell BK339.out 5).trans rfl; have hcz8_6 : w7.cell? ⟨gb339, 6, none⟩ = some (.slice A2_6 l2_6.length c2_6) := (blk_cell BK339.out 6).trans rfl; have hfz8_0 := blk_frozen BK339.out 0; have hfz8_1 := blk_frozen BK339.out 1; have hfz8_2 := blk_frozen BK339.out 2; have hfz8_3 := blk_frozen BK339.out 3; have hfz8_4 := blk_frozen BK339.out 4; have hfz8_5 := blk_frozen BK339.out 5; have hfz8_6 := blk_frozen BK339.out 6) | ((with_reducible refine gate_callee (f := 31) rfl ?_); refine goesL_ (some 12) rfl rfl Tryd.func31 (by kernel_rfl) rfl #[.string a0, .string a2_3, .agg #[.int .i64 a2_0, .slice A2_1 l2_1.length c2_1, .slice A2_2 l2_2.length c2_2]] rfl aM_ ?_; (with_reducible refine (impl_CheckSig.calls k a0 a2_3 a2_0 _ _ l2_1 _ _ l2_2 true _ ?side1 ?side2 ?side3 ?side4 A4.out (HLD.out.below HLD.out.pos (hS_ GE339.out))).mono ?_); (case side1 => exact cR_ (Kd.C_below HR2_1.out HB.out)); (case side2 => exact HC2_1.out); (case side3 => exact cR_ (Kd.C_below HR2_2.out HB.out)); (case side4 => exact HC2_2.out); rintro e w9 ⟨rfl, hb⟩; refine ⟨_, rfl, ?_⟩; have n0_ := Aside0.mk (blk_below (g := gb339) (o := .cells #[.int .i64 a2_0, .slice A2_1 l2_1.length c2_1, .slice A2_2 l2_2.length c2_2, .string a2_3, .int .i64 a2_4, .slice A2_5 l2_5.length c2_5, .slice A2_6 l2_6.length c2_6] 51 (0, 0)) (rK_ BK339.out) hb); have n1_ := Aside0.mk (below_step (hS_ GE339.out) hb); replace BK339 := n0_; replace HB := n1_; clear n0_ n1_; (try clear hb); have hcz10_0 : w9.cell? ⟨gb339, 0, none⟩ = some (.int .i64 a2_0) := (blk_cell BK339.out 0).trans rfl; have hcz10_1 : w9.cell? ⟨gb339, 1, none⟩ = some (.slice A2_1 l2_1.length c2_1) := (blk_cell BK339.out 1).trans rfl; have hcz10_2 : w9.cell? ⟨gb339, 2, none⟩ = some (.slice A2_2 l2_2.length c2_2) := (blk_cell BK339.out 2).trans rfl; have hcz10_3 : w9.cell? ⟨gb339, 3, none⟩ = some (.string a2_3) := (blk_cell BK339.out 3).trans rfl; have hcz10_4 : w9.cell? ⟨gb339, 4, none⟩ = some (.int .i64 a2_4) := (blk_cell BK339.out 4).trans rfl; have hcz10_5 : w9.cell? ⟨gb339, 5, none⟩ = some (.slice A2_5 l2_5.length c2_5) := (blk_cell BK339.out 5).trans rfl; have hcz10_6 : w9.cell? ⟨gb339, 6, none⟩ = some (.slice A2_6 l2_6.length c2_6) := (blk_cell BK339.out 6).trans rfl; have hfz10_0 := blk_frozen BK339.out 0; have hfz10_1 := blk_frozen BK339.out 1; have hfz10_2 := blk_frozen BK339.out 2; have hfz10_3 := blk_frozen BK339.out 3; have hfz10_4 := blk_frozen BK339.out 4; have hfz10_5 := blk_frozen BK339.out 5; have hfz10_6 := blk_frozen BK339.out 6) | (go_at_call 31; (with_reducible refine (impl_CheckSig.calls k a2_3 a1 a2_4 _ _ l2_5 _ _ l2_6 t341 _ ?side1 ?side2 ?side3 ?side4 A6.out (HLD.out.below HLD.out.pos (hS_ GE339.out))).mono ?_); (case side1 => exact cR_ (Kd.C_below HR2_5.out HB.out)); (case side2 => exact HC2_5.out); (case side3 => exact cR_ (Kd.C_below HR2_6.out HB.out)); (case side4 => exact HC2_6.out); rintro e w11 ⟨rfl, hb⟩; have n0_ := Aside0.mk (blk_below (g := gb339) (o := .cells #[.int .i64 a2_0, .slice A2_1 l2_1.length c2_1, .slice A2_2 l2_2.length c2_2, .string a2_3, .int .i64 a2_4, .slice A2_5 l2_5.length c2_5, .slice A2_6 l2_6.length c2_6] 51 (0, 0)) (rK_ BK339.out) hb); have n1_ := Aside0.mk (below_step (hS_ GE339.out) hb); replace BK339 := n0_; replace HB := n1_; clear n0_ n1_; (try clear hb)))
  go_ret
  exact ⟨by first | rfl | (simp [errW_none, errW_some] <;> rfl) | (simp [*, errW_none, errW_some] <;> rfl), hS_ GE339.out⟩
 ·replace c5 := Bool.eq_false_iff.mpr c5
  subst c5
  have H1 : (some false) = some r := by rw [if_neg (show ¬ (false = true) by decide)] at H; exact H
  clear H
  have H := H1
  clear H1
  obtain rfl := Option.some.inj H
  go_enter Tryd.func36, Tryd.ntmps36
  go_wp2_with (first | ((with_reducible refine gate_dst (N := 5) rfl ?_); refine box_event ?hg (N := 5) ?hd (cs := #[.int .i64 a2_0, .slice A2_1 l2_1.length c2_1, .slice A2_2 l2_2.length c2_2, .string a2_3, .int .i64 a2_4, .slice A2_5 l2_5.length c2_5, .slice A2_6 l2_6.length c2_6]) (t := 51) ?hr ?_; (case hd => rfl); (case hg => rfl); (case hr => first | (go_simp; done) | (go_simp; rfl)); intro gb339 hg w12 hbox hb; have n0_ := Aside0.mk (below_step (hB_) hb); have n1_ := Aside0.mk (hbox); have n2_ := Aside0.mk ((by rw [hg]; exact (below_size (hB_)) : w.heap.size ≤ gb339)); have n3_ := Aside0.mk ((by rw [hg]; exact (below_size (hB_)) : w.heap.size ≤ gb339)); replace HB := n0_; have BK339 := n1_; have GW339 := n2_; have GE339 := n3_; clear n0_ n1_ n2_ n3_; clear hb hbox hg; have hcz13_0 : w12.cell? ⟨gb339, 0, none⟩ = some (.int .i64 a2_0) := (blk_cell BK339.out 0).trans rfl; have hcz13_1 : w12.cell? ⟨gb339, 1, none⟩ = some (.slice A2_1 l2_1.length c2_1) := (blk_cell BK339.out 1).trans rfl; have hcz13_2 : w12.cell? ⟨gb339, 2, none⟩ = some (.slice A2_2 l2_2.length c2_2) := (blk_cell BK339.out 2).trans rfl; have hcz13_3 : w12.cell? ⟨gb339, 3, none⟩ = some (.string a2_3) := (blk_cell BK339.out 3).trans rfl; have hcz13_4 : w12.cell? ⟨gb339, 4, none⟩ = some (.int .i64 a2_4) := (blk_cell BK339.out 4).trans rfl; have hcz13_5 : w12.cell? ⟨gb339, 5, none⟩ = some (.slice A2_5 l2_5.length c2_5) := (blk_cell BK339.out 5).trans rfl; have hcz13_6 : w12.cell? ⟨gb339, 6, none⟩ = some (.slice A2_6 l2_6.length c2_6) := (blk_cell BK339.out 6).trans rfl; have hfz13_0 := blk_frozen BK339.out 0; have hfz13_1 := blk_frozen BK339.out 1; have hfz13_2 := blk_frozen BK339.out 2; have hfz13_3 := blk_frozen BK339.out 3; have hfz13_4 := blk_frozen BK339.out 4; have hfz13_5 := blk_frozen BK339.out 5; have hfz13_6 := blk_frozen BK339.out 6) | ((with_reducible refine gate_callee (f := 31) rfl ?_); refine goesL_ (some 12) rfl rfl Tryd.func31 (by kernel_rfl) rfl #[.string a0, .string a2_3, .agg #[.int .i64 a2_0, .slice A2_1 l2_1.length c2_1, .slice A2_2 l2_2.length c2_2]] rfl aM_ ?_; (with_reducible refine (impl_CheckSig.calls k a0 a2_3 a2_0 _ _ l2_1 _ _ l2_2 false _ ?side1 ?side2 ?side3 ?side4 A4.out (HLD.out.below HLD.out.pos (hS_ GE339.out))).mono ?_); (case side1 => exact cR_ (Kd.C_below HR2_1.out HB.out)); (case side2 => exact HC2_1.out); (case side3 => exact cR_ (Kd.C_below HR2_2.out HB.out)); (case side4 => exact HC2_2.out); rintro e w14 ⟨rfl, hb⟩; refine ⟨_, rfl, ?_⟩; have n0_ := Aside0.mk (blk_below (g := gb339) (o := .cells #[.int .i64 a2_0, .slice A2_1 l2_1.length c2_1, .slice A2_2 l2_2.length c2_2, .string a2_3, .int .i64 a2_4, .slice A2_5 l2_5.length c2_5, .slice A2_6 l2_6.length c2_6] 51 (0, 0)) (rK_ BK339.out) hb); have n1_ := Aside0.mk (below_step (hS_ GE339.out) hb); replace BK339 := n0_; replace HB := n1_; clear n0_ n1_; (try clear hb)))
  go_ret
  exact ⟨by first | rfl | (simp [errW_none, errW_some] <;> rfl) | (simp [*, errW_none, errW_some] <;> rfl), hS_ GE339.out⟩

end Go.Proofs.YtjcmafoepabpkaaDoor.P
