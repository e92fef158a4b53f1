-- printed texts of this session, regrouped
import Derived.Test.YtjcmafoepabpkaaDoorMW7
import Derived.Test.YtjcmafoepabpkaaDoorMW6
import Derived.Test.YtjcmafoepabpkaaDoorHA5
import Derived.Test.YtjcmafoepabpkaaDoorPx0
import Derived.Test.YtjcmafoepabpkaaDoorPx1
import Derived.Test.YtjcmafoepabpkaaDoorPx2
namespace Go.Proofs.YtjcmafoepabpkaaDoor.P
open Go.RowKit Go.Proofs.YtjcmafoepabpkaaDoorW.PrintWords Go.Proofs.YtjcmafoepabpkaaDoorW.PrintLast Go.Proofs.YtjcmafoepabpkaaDoorW.PrintMore
attribute [local go_sem] max2_int min2_int max_two min_two max_three min_three max_four min_four   -- for this text's walks alone
set_option linter.unusedVariables false
set_option linter.unusedSimpArgs false
set_option maxHeartbeats 8000000
set_option maxRecDepth 100000

/-! ### spec_DigestOf: function 106 -/
def spec_DigestOf.f (k : Nat) (a0 : ByteArray) : Option (ByteArray) := (spec_HasherNew.f k).bind fun bt193 => ((spec_HashMore.f k bt193.1 bt193.2.1 bt193.2.2 a0).bind fun bt196 => ((spec_HashEnd.f k bt196.1 bt196.2.1 bt196.2.2).bind fun t199 => (some t199)))
theorem spec_DigestOf.mono : ∀ a0 k, LeO (spec_DigestOf.f k a0) (spec_DigestOf.f (k + 1) a0) := by
 intro a0 k
 unfold spec_DigestOf.f
 repeat' first
   | (with_reducible exact spec_HashEnd.mono _ _ _ _)
   | (with_reducible exact spec_HashMore.mono _ _ _ _ _)
   | (with_reducible exact spec_HasherNew.mono _)
   | (with_reducible exact LeO.refl _)
   | (with_reducible exact LeO.none _)
   | (with_reducible refine LeO.ite ?_ ?_)
   | (with_reducible refine LeO.bind ?_ (fun _ => ?_))
   | exact spec_HashEnd.mono _ _ _ _
   | exact spec_HashMore.mono _ _ _ _ _
   | exact spec_HasherNew.mono _
   | exact LeO.none _
   | refine LeO.ite ?_ ?_
   | refine LeO.bind ?_ (fun _ => ?_)
theorem spec_DigestOf.calls (k : Nat) (a0 : ByteArray) (r : ByteArray) (w : World) (h : spec_DigestOf.f k a0 = some r) :
  Calls Tryd.prog 106 #[.string a0] w fun e w' => e = .returned (.string r) ∧ Below w.heap.size w w' := by
 have HB := Aside0.mk (Below.refl w.heap.size w)
 have H : ((spec_HasherNew.f k).bind fun bt193 => ((spec_HashMore.f k bt193.1 bt193.2.1 bt193.2.2 a0).bind fun bt196 => ((spec_HashEnd.f k bt196.1 bt196.2.1 bt196.2.2).bind fun t199 => (some t199)))) = some r := h
 clear h
 replace H := Option.bind_eq_some_iff.mp H
 obtain ⟨⟨t193, t194, t195⟩, A20, H⟩ := H
 try dsimp -simprocs only at H
 have A2 := Aside0.mk A20
 clear A20
 replace H := Option.bind_eq_some_iff.mp H
 obtain ⟨⟨t196, t197, t198⟩, A30, H⟩ := H
 try dsimp -simprocs only at H
 have A3 := Aside0.mk A30
 clear A30
 replace H := Option.bind_eq_some_iff.mp H
 obtain ⟨t199, A40, H⟩ := H
 try dsimp -simprocs only at H
 have A4 := Aside0.mk A40
 clear A40
 obtain rfl := Option.some.inj H
 go_enter Tryd.func106, Tryd.ntmps106
 go_wp2_with (first | ((with_reducible refine gate_callee (f := 123) rfl ?_); refine goesL_ (some 3) rfl rfl Tryd.func123 (by kernel_rfl) rfl #[] rfl aM_ ?_; (with_reducible refine (spec_HasherNew.calls k  t193 t194 t195 _ A2.out).mono ?_); rintro e w5 ⟨rfl, hb⟩; refine ⟨_, rfl, ?_⟩; have n0_ := Aside0.mk (below_step (hB_) hb); replace HB := n0_; clear n0_; (try clear hb)) | ((with_reducible refine gate_callee (f := 122) rfl ?_); refine goesL_ (some 5) rfl rfl Tryd.func122 (by kernel_rfl) rfl #[.agg #[.string t193, .string t194, .int .i64 t195], .string a0] rfl aM_ ?_; (with_reducible refine (spec_HashMore.calls k t193 t194 t195 a0 t196 t197 t198 _ A3.out).mono ?_); rintro e w6 ⟨rfl, hb⟩; refine ⟨_, rfl, ?_⟩; have n0_ := Aside0.mk (below_step (hB_) hb); replace HB := n0_; clear n0_; (try clear hb)) | ((with_reducible refine gate_callee (f := 121) rfl ?_); refine goesL_ (some 6) rfl rfl Tryd.func121 (by kernel_rfl) rfl #[.agg #[.string t196, .string t197, .int .i64 t198]] rfl aM_ ?_; (with_reducible refine (spec_HashEnd.calls k t196 t197 t198 t199 _ A4.out).mono ?_); rintro e w7 ⟨rfl, hb⟩; refine ⟨_, rfl, ?_⟩; have n0_ := Aside0.mk (below_step (hB_) hb); replace HB := n0_; clear n0_; (try clear hb)))
 go_ret
 exact ⟨by first | rfl | (simp [errW_none, errW_some] <;> rfl) | (simp [*, errW_none, errW_some] <;> rfl), hB_⟩

/-! ### spec_Chop: function 72 -/
def spec_Chop.f (k : Nat) (a0 : ByteArray) : Option (ByteArray) := (spec_DigestOf.f k a0).bind fun t256 => (if 0 ≤ 4 then (if 4 ≤ (t256.size : Int) then (some (t256.extract 0 4)) else (none)) else (none))
theorem spec_Chop.mono : ∀ a0 k, LeO (spec_Chop.f k a0) (spec_Chop.f (k + 1) a0) := by
 intro a0 k
 unfold spec_Chop.f
 repeat' first
   | (with_reducible exact spec_DigestOf.mono _ _)
   | (with_reducible exact LeO.refl _)
   | (with_reducible exact LeO.none _)
   | (with_reducible refine LeO.ite ?_ ?_)
   | (with_reducible refine LeO.bind ?_ (fun _ => ?_))
   | exact spec_DigestOf.mono _ _
   | exact LeO.none _
   | refine LeO.ite ?_ ?_
   | refine LeO.bind ?_ (fun _ => ?_)
theorem spec_Chop.calls (k : Nat) (a0 : ByteArray) (r : ByteArray) (w : World) (h : spec_Chop.f k a0 = some r) :
  Calls Tryd.prog 72 #[.string a0] w fun e w' => e = .returned (.string r) ∧ Below w.heap.size w w' := by
 have HB := Aside0.mk (Below.refl w.heap.size w)
 have H : ((spec_DigestOf.f k a0).bind fun t256 => (if 0 ≤ 4 then (if 4 ≤ (t256.size : Int) then (some (t256.extract 0 4)) else (none)) else (none))) = some r := h
 clear h
 replace H := Option.bind_eq_some_iff.mp H
 obtain ⟨t256, A20, H⟩ := H
 try dsimp -simprocs only at H
 have A2 := Aside0.mk A20
 clear A20
 obtain ⟨c3, H⟩ := iN_ H
 have c3b0 := eq_true c3
 have c3b1 := decide_eq_true c3
 clear c3
 obtain ⟨c4, H⟩ := iN_ H
 have c4b0 := eq_true c4
 have c4b1 := decide_eq_true c4
 clear c4
 obtain rfl := Option.some.inj H
 go_enter Tryd.func72, Tryd.ntmps72
 go_wp2_with (first | ((with_reducible refine gate_callee (f := 106) rfl ?_); refine goesL_ (some 4) rfl rfl Tryd.func106 (by kernel_rfl) rfl #[.string a0] rfl aM_ ?_; (with_reducible refine (spec_DigestOf.calls k a0 t256 _ A2.out).mono ?_); rintro e w5 ⟨rfl, hb⟩; refine ⟨_, rfl, ?_⟩; have n0_ := Aside0.mk (below_step (hB_) hb); replace HB := n0_; clear n0_; (try clear hb)))
 go_ret
 exact ⟨by first | rfl | (simp [errW_none, errW_some] <;> rfl) | (simp [*, errW_none, errW_some] <;> rfl), hB_⟩

/-! ### spec_DigitsOf: function 70 -/
def spec_DigitsOf.l0 : Nat → ByteArray → List Int → Int → Int → Option (List Int)
 | 0, _, _, _, _ => none
 | k + 1, x3, x4, x5, x6 => if x6 < 4 then (if 0 ≤ x6 then (if x6 < (x3.size : Int) then ((some (([wrap64 (Int.tdiv (wrap64 (bt x3 x6)) 16), Int.tmod (wrap64 (bt x3 x6)) 16] : List Int) : List Int)).bind fun y261 => (if x4.length + y261.length < 17592186044416 then (spec_DigitsOf.l0 k x3 (x4 ++ y261) (wrap64 ((wrap64 ((wrap64 (x5 + 30)) - (wrap64 (Int.tdiv (wrap64 (bt x3 x6)) 16)))) - (Int.tmod (wrap64 (bt x3 x6)) 16))) (wrap64 (x6 + 1))) else (none))) else (none)) else (none)) else ((some (([wrap64 (Int.tdiv x5 16), Int.tmod x5 16] : List Int) : List Int)).bind fun y267 => (if x4.length + y267.length < 17592186044416 then (some (x4 ++ y267)) else (none)))
def spec_DigitsOf.f (k : Nat) (a0 : ByteArray) : Option (List Int) := (spec_Chop.f k a0).bind fun t257 => (spec_DigitsOf.l0 k t257 (([] : List Int)) 0 0)
theorem spec_DigitsOf.mono_l : ∀ k, (∀ y0 y1 y2 y3, LeO (spec_DigitsOf.l0 k y0 y1 y2 y3) (spec_DigitsOf.l0 (k + 1) y0 y1 y2 y3))
 | 0 => fun _ _ _ _ r h => by simp [spec_DigitsOf.l0] at h
 | k + 1 => by
  have ih0 := spec_DigitsOf.mono_l k
  ·intro y0 y1 y2 y3
   unfold spec_DigitsOf.l0
   repeat' first
   | (with_reducible exact ih0 _ _ _ _)
   | (with_reducible exact spec_Chop.mono _ _)
   | (with_reducible exact LeO.refl _)
   | (with_reducible exact LeO.none _)
   | (with_reducible refine LeO.ite ?_ ?_)
   | (with_reducible refine LeO.bind ?_ (fun _ => ?_))
   | exact ih0 _ _ _ _
   | exact spec_Chop.mono _ _
   | exact LeO.none _
   | refine LeO.ite ?_ ?_
   | refine LeO.bind ?_ (fun _ => ?_)
theorem spec_DigitsOf.mono : ∀ a0 k, LeO (spec_DigitsOf.f k a0) (spec_DigitsOf.f (k + 1) a0) := by
 intro a0 k
 have ih0 := spec_DigitsOf.mono_l k
 unfold spec_DigitsOf.f
 repeat' first
   | (with_reducible exact ih0 _ _ _ _)
   | (with_reducible exact spec_Chop.mono _ _)
   | (with_reducible exact LeO.refl _)
   | (with_reducible exact LeO.none _)
   | (with_reducible refine LeO.ite ?_ ?_)
   | (with_reducible refine LeO.bind ?_ (fun _ => ?_))
   | exact ih0 _ _ _ _
   | exact spec_Chop.mono _ _
   | exact LeO.none _
   | refine LeO.ite ?_ ?_
   | refine LeO.bind ?_ (fun _ => ?_)
def spec_DigitsOf.T7 : Bool × List (List Nat × List Nat) := (true, [([], []), ([], []), ([], []), ([1, 2], [1, 2]), ([3], [3]), ([4], [4]), ([], []), ([], []), ([6, 7], [6, 7]), ([8], [8]), ([9], [9]), ([5, 10], [5, 10]), ([0, 11], [0, 11]), ([12, 12, 0, 1, 2, 3, 4, 5, 6, 7, 8, 9, 10, 11, 12], [0, 12])])
def spec_DigitsOf.B7 : List Nat := [0, 0, 0, 6, 14, 30, 0, 0, 192, 448, 960, 2046, 4095, 8191]
theorem spec_DigitsOf.tab7 : rtab .any (opsOf Tryd.f70 7) = spec_DigitsOf.T7 := by kernel_rfl
theorem spec_DigitsOf.bits7 : waitsOk spec_DigitsOf.T7.2 spec_DigitsOf.B7 = true := by kernel_rfl
def spec_DigitsOf.T8 : Bool × List (List Nat × List Nat) := (true, [([], []), ([0], [0]), ([], []), ([], []), ([2, 3], [2, 3]), ([4], [4]), ([5], [5]), ([1, 6], [1, 6]), ([], []), ([], []), ([8, 9], [8, 9]), ([10], [10]), ([11], [11]), ([7, 12], [7, 12]), ([13, 0, 1, 2, 3, 4, 5, 6, 7, 8, 9, 10, 11, 12, 13], [0, 13])])
def spec_DigitsOf.B8 : List Nat := [0, 1, 0, 0, 12, 28, 60, 127, 0, 0, 768, 1792, 3840, 8191, 16383]
theorem spec_DigitsOf.tab8 : rtab .any (opsOf Tryd.f70 8) = spec_DigitsOf.T8 := by kernel_rfl
theorem spec_DigitsOf.bits8 : waitsOk spec_DigitsOf.T8.2 spec_DigitsOf.B8 = true := by kernel_rfl
theorem spec_DigitsOf.calls (k : Nat) (a0 : ByteArray) (r : List Int) (w : World) (h : spec_DigitsOf.f k a0 = some r) :
  Calls Tryd.prog 70 #[.string a0] w fun e w' => ∃ v0_ : Value, e = .returned (v0_) ∧ Kd.R (Kd.int .i64) 3 w' w.heap.size (fun _ => True) v0_ r ∧ Below w.heap.size w w' := by
 have HB := Aside0.mk (Below.refl w.heap.size w)
 have H : ((spec_Chop.f k a0).bind fun t257 => (spec_DigitsOf.l0 k t257 (([] : List Int)) 0 0)) = some r := h
 clear h
 replace H := Option.bind_eq_some_iff.mp H
 obtain ⟨t257, A20, H⟩ := H
 try dsimp -simprocs only at H
 have A2 := Aside0.mk A20
 clear A20
 obtain ⟨y258, hy258⟩ : ∃ y_ : List Int, y_ = (([] : List Int)) := ⟨_, rfl⟩
 replace H : (spec_DigitsOf.l0 k t257 y258 0 0) = some r := by first | (rw [hy258]; with_reducible exact H) | (have H2_ := (Option.bind_some _ _).symm.trans H; rw [hy258]; with_reducible exact H2_) | (have H2_ := (Option.bind_some _ _).symm.trans H; with_reducible exact H2_) | with_reducible exact H | (rw [hy258]; exact H) | exact H
 have Ny258 := Aside0.mk hy258
 clear hy258
 have H' := Aside0.mk H
 clear H
 go_enter Tryd.func70, Tryd.ntmps70
 go_wp2_with (first | ((with_reducible refine gate_callee (f := 72) rfl ?_); refine goesL_ (some 8) rfl rfl Tryd.func72 (by kernel_rfl) rfl #[.string a0] rfl aM_ ?_; (with_reducible refine (spec_Chop.calls k a0 t257 _ A2.out).mono ?_); rintro e w3 ⟨rfl, hb⟩; refine ⟨_, rfl, ?_⟩; have n0_ := Aside0.mk (below_step (hB_) hb); replace HB := n0_; clear n0_; (try clear hb)) | ((with_reducible refine gate_dst (N := 9) rfl ?_); refine Kd.R_lit (Kd.int .i64) _ 3 ?hg (N := 9) ?hd (xs := ([] : List Int)) (inner := []) (ok := fun _ => True) (okp := fun _ => True) ?hr ?hp (fun _ hk => hk) trivial (Below.refl _ _) (Nat.le_refl _) (by simp) ?_; (case hd => rfl); (case hg => rfl); (case hr => first | (go_simp; done) | (go_simp; rfl)); (case hp => exact (Reps.none _ _)); intro v259 w4 ho5 hb hg_ hnew_; clear hg_ hnew_; (first | rw [← Ny258.out] at ho5 | (simp only [Int.reduceToNat] at ho5; rw [← Ny258.out] at ho5)); have n0_ := Aside0.mk (Kd.R_lower ho5 (below_size (hB_))); have n1_ := Aside0.mk (below_step (hB_) hb); have HO260 := n0_; replace HB := n1_; clear n0_ n1_; clear hb ho5))
 go_loopg [4, 5, 6] k (fun kq v4 v5 v6 w' => ∃ (x4_1 : List Int) (x5_1 : Int) (x6_1 : Int), v5 = .int .i64 x5_1 ∧ v6 = .int .i64 x6_1 ∧ Aside0 (spec_DigitsOf.l0 kq t257 x4_1 x5_1 x6_1 = some r) ∧ Aside0 (kq ≤ k) ∧ Aside0 (Kd.R (Kd.int .i64) 3 w' w.heap.size (fun _ => True) v4 x4_1) ∧ Aside0 (Below w.heap.size w w'))
 case atStart => exact ⟨(y258), (0), (0), (by first | rfl | (simp; done) | (simp [*]; done)), (by first | rfl | (simp; done) | (simp [*]; done)), H', ⟨Nat.le_refl _⟩, ⟨rR_ HO260.out⟩, ⟨hB_⟩⟩
 case round =>
  clear H'
  try clear p2
  obtain ⟨x4_1, x5_1, x6_1, rfl, rfl, HA, HK1, HO_4, HB⟩ := hrel
  cases gk with
  | zero => exact absurd HA.out (by simp [spec_DigitsOf.l0])
  | succ k1 =>
   have H := HA.out
   clear HA
   simp only [spec_DigitsOf.l0] at H
   by_cases c6 : x6_1 < 4
   rotate_left
   ·rw [if_neg c6] at H
    have c6b0 := decide_eq_false c6
    clear c6
    obtain ⟨y267, hy267⟩ : ∃ y_ : List Int, y_ = (([wrap64 (Int.tdiv x5_1 16), Int.tmod x5_1 16] : List Int)) := ⟨_, rfl⟩
    replace H : (if x4_1.length + y267.length < 17592186044416 then (some (x4_1 ++ y267)) else (none)) = some r := by first | (rw [hy267]; with_reducible exact H) | (have H2_ := (Option.bind_some _ _).symm.trans H; rw [hy267]; with_reducible exact H2_) | (have H2_ := (Option.bind_some _ _).symm.trans H; with_reducible exact H2_) | with_reducible exact H | (rw [hy267]; exact H) | exact H
    have Ny267 := Aside0.mk hy267
    clear hy267
    obtain ⟨c20, H⟩ := iN_ H
    have LMc20 := Aside0.mk c20
    clear c20
    obtain ⟨y270, hy270⟩ : ∃ y_ : List Int, y_ = (x4_1 ++ y267) := ⟨_, rfl⟩
    replace H : (some y270) = some r := by first | (rw [hy270]; with_reducible exact H) | (have H2_ := (Option.bind_some _ _).symm.trans H; rw [hy270]; with_reducible exact H2_) | (have H2_ := (Option.bind_some _ _).symm.trans H; with_reducible exact H2_) | with_reducible exact H | (rw [hy270]; exact H) | exact H
    have Ny270 := Aside0.mk hy270
    clear hy270
    obtain rfl := Option.some.inj H
    go_wp2_with (first | ((with_reducible refine gate_dst (N := 46) rfl ?_); refine Kd.R_lit (Kd.int .i64) _ 3 ?hg (N := 46) ?hd (xs := ([wrap64 (Int.tdiv x5_1 16), Int.tmod x5_1 16] : List Int)) (inner := [.int .i64 (wrap64 (Int.tdiv x5_1 16)), .int .i64 (Int.tmod x5_1 16)]) (ok := fun _ => True) (okp := fun _ => True) ?hr ?hp (fun _ hk => hk) trivial (Below.refl _ _) (Nat.le_refl _) (by simp) ?_; (case hd => rfl); (case hg => rfl); (case hr => first | (go_simp; done) | (go_simp; rfl)); (case hp => exact (Reps.one (show Kd.M (Kd.int .i64) _ _ _ (wrap64 (Int.tdiv x5_1 16)) [.int .i64 (wrap64 (Int.tdiv x5_1 16))] from rfl) (Reps.one (show Kd.M (Kd.int .i64) _ _ _ (Int.tmod x5_1 16) [.int .i64 (Int.tmod x5_1 16)] from rfl) (Reps.none _ _)))); intro v268 w21 ho22 hb hg_ hnew_; clear hg_ hnew_; (first | rw [← Ny267.out] at ho22 | (simp only [Int.reduceToNat] at ho22; rw [← Ny267.out] at ho22)); have n0_ := Aside0.mk (Kd.R_elder' (rR_ HO_4.out) (Kd.R_base ho22) hb); have n1_ := Aside0.mk (Kd.R_lower (Kd.R_new' ho22 (Kd.R_lt (rR_ HO_4.out))) (below_size (hB_))); have n2_ := Aside0.mk (below_step (hB_) hb); replace HO_4 := n0_; have HO269 := n1_; replace HB := n2_; clear n0_ n1_ n2_; clear hb ho22; obtain ⟨Ao24, co24, eo24⟩ := Kd.R_slice HO269.out; subst eo24) | ((with_reducible refine gate_builtin (b := .append) (xs := #[.tmp 41, .tmp 46]) rfl ?_); at_builtin; refine Kd.R_append_rows (Kd.int .i64) (w0 := w) w.heap.size rfl (.tmp 41) (.tmp 46) 61 3 (.int .i64 0) 8 rfl Tryd.underlying61 info3 rfl (by decide) (by omega) u4 x4_1 y267 _ _ _ (fun k_ => some k_ ≠ (.slice Ao24 y267.length co24 : Value).ownBlock) (fun _ => False) rfl rfl ?aO ?aR (fun _ _ h => h) (fun _ h => h.elim) ?aF ?aB ?aS ?aL ?_; (case aR => exact cR_ (Kd.R_reads' HO269.out).2.2); (case aB => exact (hB_)); (case aF => exact (fun k_ hk => Kd.fresh' (Kd.R_lt (rR_ HO269.out)) k_ hk)); (case aO => exact (by refine kR_ ?_; exact Kd.R_mono HO_4.out (fun _ hk => hk.2))); (case aS => exact (below_size (hB_))); (case aL => have := LMc20.out; omega); intro v271 w23 ho hb hg hat; rw [← Ny270.out] at ho; have n0_ := Aside0.mk (Kd.R_after (ok := (fun _ => True)) (rR_ HO269.out) hg hat); have n1_ := Aside0.mk (hb); have n2_ := Aside0.mk (ho); clear HO_4; replace HO269 := n0_; replace HB := n1_; have HO272 := n2_; clear n0_ n1_ n2_; clear ho hb hg hat))
    go_ret
    exact ⟨_, by first | rfl | (simp [errW_none, errW_some] <;> rfl) | (simp [*, errW_none, errW_some] <;> rfl), by refine kR_ ?_; exact Kd.R_mono HO272.out (fun _ hk => trivial), hB_⟩
   rw [if_pos c6] at H
   have c6b0 := decide_eq_true c6
   clear c6
   obtain ⟨c7, H⟩ := iN_ H
   have c7b0 := decide_eq_true c7
   clear c7
   obtain ⟨c8, H⟩ := iN_ H
   have c8b0 := decide_eq_true c8
   clear c8
   obtain ⟨y261, hy261⟩ : ∃ y_ : List Int, y_ = (([wrap64 (Int.tdiv (wrap64 (bt t257 x6_1)) 16), Int.tmod (wrap64 (bt t257 x6_1)) 16] : List Int)) := ⟨_, rfl⟩
   replace H : (if x4_1.length + y261.length < 17592186044416 then (spec_DigitsOf.l0 k1 t257 (x4_1 ++ y261) (wrap64 ((wrap64 ((wrap64 (x5_1 + 30)) - (wrap64 (Int.tdiv (wrap64 (bt t257 x6_1)) 16)))) - (Int.tmod (wrap64 (bt t257 x6_1)) 16))) (wrap64 (x6_1 + 1))) else (none)) = some r := by first | (rw [hy261]; with_reducible exact H) | (have H2_ := (Option.bind_some _ _).symm.trans H; rw [hy261]; with_reducible exact H2_) | (have H2_ := (Option.bind_some _ _).symm.trans H; with_reducible exact H2_) | with_reducible exact H | (rw [hy261]; exact H) | exact H
   have Ny261 := Aside0.mk hy261
   clear hy261
   obtain ⟨c11, H⟩ := iN_ H
   have LMc11 := Aside0.mk c11
   clear c11
   obtain ⟨y264, hy264⟩ : ∃ y_ : List Int, y_ = (x4_1 ++ y261) := ⟨_, rfl⟩
   replace H : (spec_DigitsOf.l0 k1 t257 y264 (wrap64 ((wrap64 ((wrap64 (x5_1 + 30)) - (wrap64 (Int.tdiv (wrap64 (bt t257 x6_1)) 16)))) - (Int.tmod (wrap64 (bt t257 x6_1)) 16))) (wrap64 (x6_1 + 1))) = some r := by first | (rw [hy264]; with_reducible exact H) | (have H2_ := (Option.bind_some _ _).symm.trans H; rw [hy264]; with_reducible exact H2_) | (have H2_ := (Option.bind_some _ _).symm.trans H; with_reducible exact H2_) | with_reducible exact H | (rw [hy264]; exact H) | exact H
   have Ny264 := Aside0.mk hy264
   clear hy264
   have H' := Aside0.mk H
   clear H
   try go_wp2
   have n0_ := Aside0.mk (Kd.R_drew HO_4.out)
   have n1_ := Aside0.mk (below_drew1 HB.out)
   clear HO_4
   clear HB
   have HO_4 := n0_
   have HB := n1_
   clear n0_ n1_
   have p9 : 0 ≤ (x6_1 : Int) := of_decide_eq_true (by first | (with_reducible assumption) | assumption)
   have q9 : x6_1 < (t257.size : Int) := of_decide_eq_true (by first | (with_reducible assumption) | assumption)
   have hx9 := bt_at t257 x6_1
   replace p9 := eq_true p9
   replace q9 := eq_true q9
   have p10 : 0 ≤ (x6_1 : Int) := of_decide_eq_true (by first | (with_reducible assumption) | assumption)
   have q10 : x6_1 < (t257.size : Int) := of_decide_eq_true (by first | (with_reducible assumption) | assumption)
   have hx10 := bt_at t257 x6_1
   replace p10 := eq_true p10
   replace q10 := eq_true q10
   refine start_ (n := 14) (S := fun w' => True) (ds := []) (bb_ 14 0) (by kernel_rfl) rfl rfl trivial (fun hHeld => ?_); refine with_tabW spec_DigitsOf.tab7 spec_DigitsOf.bits7 (fun HT_ HW_ => ?_)
   generalize wr.drew = w14 at HO_4 HB hHeld ⊢
   refine pS_ 0 14 (bb_ 14 1) HT_.out ?_
   refine pS_ 1 15 (bb_ 14 3) HT_.out ?_
   refine pS_ 2 16 (bb_ 14 7) HT_.out ?_
   refine pS_ 6 20 (bb_ 14 71) HT_.out ?_
   refine pS_ 7 21 (bb_ 14 199) HT_.out ?_
   refine tS_ 3 17 (bb_ 14 207) (take_ofW HT_.out HW_.out (by kernel_rfl)) hHeld ?_
   refine pS_ 4 18 (bb_ 14 223) HT_.out ?_
   refine pS_ 5 19 (bb_ 14 255) HT_.out ?_
   refine tS_ 8 22 (bb_ 14 511) (take_ofW HT_.out HW_.out (by kernel_rfl)) hHeld ?_
   refine pS_ 9 23 (bb_ 14 1023) HT_.out ?_
   refine pS_ 10 24 (bb_ 14 2047) HT_.out ?_
   refine one_ (i := 11) (N := some 25) (bb_ 14 4095) rfl rfl (one_of HT_.out (by kernel_rfl)) (by decide) (fun K hK => ?_)
   refine Kd.R_lit_step (Kd.int .i64) _ 3 ?hg (N := 25) ?hd (xs := ([wrap64 (Int.tdiv (wrap64 (bt t257 x6_1)) 16), Int.tmod (wrap64 (bt t257 x6_1)) 16] : List Int)) (inner := [.int .i64 (wrap64 (Int.tdiv (wrap64 (bt t257 x6_1)) 16)), .int .i64 (Int.tmod (wrap64 (bt t257 x6_1)) 16)]) (ok := fun _ => True) (okp := fun _ => True) ?hr ?hp (fun _ hk => hk) trivial (Below.refl _ _) (Nat.le_refl _) (by simp) ?_; (case hd => rfl); (case hg => rfl); (case hr => first | (go_simp; done) | (go_simp; rfl)); (case hp => exact (Reps.one (show Kd.M (Kd.int .i64) _ _ _ (wrap64 (Int.tdiv (wrap64 (bt t257 x6_1)) 16)) [.int .i64 (wrap64 (Int.tdiv (wrap64 (bt t257 x6_1)) 16))] from rfl) (Reps.one (show Kd.M (Kd.int .i64) _ _ _ (Int.tmod (wrap64 (bt t257 x6_1)) 16) [.int .i64 (Int.tmod (wrap64 (bt t257 x6_1)) 16)] from rfl) (Reps.none _ _))))
   intro v262 w15 ho16 hb hg_ hnew_
   clear hg_ hnew_
   (first | rw [← Ny261.out] at ho16 | (simp only [Int.reduceToNat] at ho16; rw [← Ny261.out] at ho16))
   have n0_ := Aside0.mk (Kd.R_elder' (rR_ HO_4.out) (Kd.R_base ho16) hb)
   have n1_ := Aside0.mk (Kd.R_lower (Kd.R_new' ho16 (Kd.R_lt (rR_ HO_4.out))) (below_size (hB_)))
   have n2_ := Aside0.mk (below_step (hB_) hb)
   clear HO_4
   clear HB
   have HO_4 := n0_
   have HO263 := n1_
   have HB := n2_
   clear n0_ n1_ n2_
   clear hb ho16
   obtain ⟨Ao18, co18, eo18⟩ := Kd.R_slice HO263.out
   (first | subst eo18 | (injection eo18 with f1_ f2_ f3_; have f4_ := f1_.symm; have f5_ := f3_.symm; clear f1_ f2_ f3_; subst f4_; subst f5_))
   refine hK.out _ _ trivial (fun hHeld => ?_)
   clear hK K
   refine norm_ (a' := ?_) ?_ ?_
   rotate_left
   ·show Act.put _ (some 25) _ = _
    simp only [Act.put, List.setIfInBounds_toArray, List.set_cons_zero, List.set_cons_succ, i64_w, i32_w]
    rfl
   refine one_ (i := 12) (N := some 26) (bb_ 14 8191) rfl rfl (one_of HT_.out (by kernel_rfl)) (by decide) (fun K hK => ?_)
   refine Kd.R_append_rows_step (Kd.int .i64) (w0 := w) w.heap.size (by rfl) (.tmp 14) (.tmp 25) 61 3 (.int .i64 0) 8 rfl Tryd.underlying61 info3 rfl (by decide) (by omega) u4 x4_1 y261 _ _ _ (fun k_ => some k_ ≠ (.slice Ao18 y261.length co18 : Value).ownBlock) (fun _ => False) rfl rfl ?aO ?aR (fun _ _ h => h) (fun _ h => h.elim) ?aF ?aB ?aS ?aL ?_
   (case aR => exact cR_ (Kd.R_reads' HO263.out).2.2)
   (case aB => exact (hB_))
   (case aF => exact (fun k_ hk => Kd.fresh' (Kd.R_lt (rR_ HO263.out)) k_ hk))
   (case aO => exact (by refine kR_ ?_; exact Kd.R_mono HO_4.out (fun _ hk => hk.2)))
   (case aS => exact (below_size (hB_)))
   (case aL => have := LMc11.out; omega)
   intro v265 w17 ho hb hg hat
   rw [← Ny264.out] at ho
   have n0_ := Aside0.mk (Kd.R_after (ok := (fun _ => True)) (rR_ HO263.out) hg hat)
   have n1_ := Aside0.mk (hb)
   have n2_ := Aside0.mk (ho)
   clear HO263
   clear HB
   clear HO_4
   have HO263 := n0_
   have HB := n1_
   have HO266 := n2_
   clear n0_ n1_ n2_
   clear ho hb hg hat
   refine hK.out _ _ trivial (fun hHeld => ?_)
   clear hK K
   refine norm_ (a' := ?_) ?_ ?_
   rotate_left
   ·show Act.put _ (some 26) _ = _
    simp only [Act.put, List.setIfInBounds_toArray, List.set_cons_zero, List.set_cons_succ, i64_w, i32_w]
    rfl
   refine pS_ 13 4 (bb_ 14 16383) HT_.out ?_
   refine done_ (done_of HT_.out (by kernel_rfl)) ?_
   try go_wp2
   have n0_ := Aside0.mk (Kd.R_drew HO263.out)
   have n1_ := Aside0.mk (Kd.R_drew HO266.out)
   have n2_ := Aside0.mk (below_drew1 HB.out)
   clear HO263
   clear HO266
   clear HB
   have HO263 := n0_
   have HO266 := n1_
   have HB := n2_
   clear n0_ n1_ n2_
   have p12 : 0 ≤ (x6_1 : Int) := of_decide_eq_true (by first | (with_reducible assumption) | assumption)
   have q12 : x6_1 < (t257.size : Int) := of_decide_eq_true (by first | (with_reducible assumption) | assumption)
   have hx12 := bt_at t257 x6_1
   replace p12 := eq_true p12
   replace q12 := eq_true q12
   have p13 : 0 ≤ (x6_1 : Int) := of_decide_eq_true (by first | (with_reducible assumption) | assumption)
   have q13 : x6_1 < (t257.size : Int) := of_decide_eq_true (by first | (with_reducible assumption) | assumption)
   have hx13 := bt_at t257 x6_1
   replace p13 := eq_true p13
   replace q13 := eq_true q13
   refine start_ (n := 15) (S := fun w' => True) (ds := []) (bb_ 15 0) (by kernel_rfl) rfl rfl trivial (fun hHeld => ?_); refine with_tabW spec_DigitsOf.tab8 spec_DigitsOf.bits8 (fun HT_ HW_ => ?_)
   generalize w17.drew = w19 at HO263 HO266 HB hHeld ⊢
   refine pS_ 0 27 (bb_ 15 1) HT_.out ?_
   refine pS_ 1 28 (bb_ 15 3) HT_.out ?_
   refine pS_ 2 29 (bb_ 15 7) HT_.out ?_
   refine pS_ 3 30 (bb_ 15 15) HT_.out ?_
   refine pS_ 8 35 (bb_ 15 271) HT_.out ?_
   refine pS_ 9 36 (bb_ 15 783) HT_.out ?_
   refine tS_ 4 31 (bb_ 15 799) (take_ofW HT_.out HW_.out (by kernel_rfl)) hHeld ?_
   refine pS_ 5 32 (bb_ 15 831) HT_.out ?_
   refine pS_ 6 33 (bb_ 15 895) HT_.out ?_
   refine pS_ 7 34 (bb_ 15 1023) HT_.out ?_
   refine tS_ 10 37 (bb_ 15 2047) (take_ofW HT_.out HW_.out (by kernel_rfl)) hHeld ?_
   refine pS_ 11 38 (bb_ 15 4095) HT_.out ?_
   refine pS_ 12 39 (bb_ 15 8191) HT_.out ?_
   refine pS_ 13 40 (bb_ 15 16383) HT_.out ?_
   refine pS_ 14 5 (bb_ 15 32767) HT_.out ?_
   refine done_ (done_of HT_.out (by kernel_rfl)) ?_
   try go_wp2
   go_roundg k1
   case measure => have := HK1.out; omega
   case rel => exact ⟨(y264), (wrap64 ((wrap64 ((wrap64 (x5_1 + 30)) - (wrap64 (Int.tdiv (wrap64 (bt t257 x6_1)) 16)))) - (Int.tmod (wrap64 (bt t257 x6_1)) 16))), (wrap64 (x6_1 + 1)), (by first | rfl | (simp; done) | (simp [*]; done)), (by first | rfl | (simp; done) | (simp [*]; done)), H', ⟨by have := HK1.out; omega⟩, ⟨by refine kR_ ?_; exact Kd.R_mono HO266.out (fun _ hk => trivial)⟩, ⟨hB_⟩⟩

/-! ### spec_ChainOf: function 71 -/
mutual
def spec_ChainOf.l0 : Nat → ByteArray → Int → Int → Int → Int → Int → Option (ByteArray)
 | 0, _, _, _, _, _, _ => none
 | k + 1, x0, x1, x2, x3, x4, x11 => if x11 < x4 then (spec_ChainOf.j1 k x0 x1 x2 x3 x4 x11 (decide (x11 < 15))) else (spec_ChainOf.j1 k x0 x1 x2 x3 x4 x11 false)
def spec_ChainOf.j1 : Nat → ByteArray → Int → Int → Int → Int → Int → Bool → Option (ByteArray)
 | 0, _, _, _, _, _, _, _ => none
 | k + 1, x0, x1, x2, x3, x4, x11, x18 => if x18 = true then ((spec_l06Byte.f x1).bind fun t273 => ((spec_l06Byte.f x2).bind fun t274 => (if t273.size + t274.size ≤ 9223372036854775807 then ((spec_l06Byte.f (wrap64 ((Int.tmod x3 256) + x11))).bind fun t275 => (if (t273 ++ t274).size + t275.size ≤ 9223372036854775807 then (if ((t273 ++ t274) ++ t275).size + x0.size ≤ 9223372036854775807 then ((spec_Chop.f k (((t273 ++ t274) ++ t275) ++ x0)).bind fun t276 => (spec_ChainOf.l0 k t276 x1 x2 x3 x4 (wrap64 (x11 + 1)))) else (none)) else (none))) else (none)))) else (some x0)
end
def spec_ChainOf.f (k : Nat) (a0 : ByteArray) (a1 : Int) (a2 : Int) (a3 : Int) (a4 : Int) : Option (ByteArray) := spec_ChainOf.l0 k a0 a1 a2 a3 a4 0
theorem spec_ChainOf.mono_l : ∀ k, (∀ y0 y1 y2 y3 y4 y5, LeO (spec_ChainOf.l0 k y0 y1 y2 y3 y4 y5) (spec_ChainOf.l0 (k + 1) y0 y1 y2 y3 y4 y5)) ∧ (∀ y0 y1 y2 y3 y4 y5 y6, LeO (spec_ChainOf.j1 k y0 y1 y2 y3 y4 y5 y6) (spec_ChainOf.j1 (k + 1) y0 y1 y2 y3 y4 y5 y6))
 | 0 => ⟨fun _ _ _ _ _ _ r h => by simp [spec_ChainOf.l0] at h, fun _ _ _ _ _ _ _ r h => by simp [spec_ChainOf.j1] at h⟩
 | k + 1 => by
  obtain ⟨ih0, ih1⟩ := spec_ChainOf.mono_l k
  refine ⟨?_, ?_⟩
  ·intro y0 y1 y2 y3 y4 y5
   unfold spec_ChainOf.l0
   repeat' first
   | (with_reducible exact ih0 _ _ _ _ _ _)
   | (with_reducible exact ih1 _ _ _ _ _ _ _)
   | (with_reducible exact spec_Chop.mono _ _)
   | (with_reducible exact LeO.refl _)
   | (with_reducible exact LeO.none _)
   | (with_reducible refine LeO.ite ?_ ?_)
   | (with_reducible refine LeO.bind ?_ (fun _ => ?_))
   | exact ih0 _ _ _ _ _ _
   | exact ih1 _ _ _ _ _ _ _
   | exact spec_Chop.mono _ _
   | exact LeO.none _
   | refine LeO.ite ?_ ?_
   | refine LeO.bind ?_ (fun _ => ?_)
  ·intro y0 y1 y2 y3 y4 y5 y6
   unfold spec_ChainOf.j1
   repeat' first
   | (with_reducible exact ih0 _ _ _ _ _ _)
   | (with_reducible exact ih1 _ _ _ _ _ _ _)
   | (with_reducible exact spec_Chop.mono _ _)
   | (with_reducible exact LeO.refl _)
   | (with_reducible exact LeO.none _)
   | (with_reducible refine LeO.ite ?_ ?_)
   | (with_reducible refine LeO.bind ?_ (fun _ => ?_))
   | exact ih0 _ _ _ _ _ _
   | exact ih1 _ _ _ _ _ _ _
   | exact spec_Chop.mono _ _
   | exact LeO.none _
   | refine LeO.ite ?_ ?_
   | refine LeO.bind ?_ (fun _ => ?_)
theorem spec_ChainOf.mono : ∀ a0 a1 a2 a3 a4 k, LeO (spec_ChainOf.f k a0 a1 a2 a3 a4) (spec_ChainOf.f (k + 1) a0 a1 a2 a3 a4) := by
 intro a0 a1 a2 a3 a4 k
 obtain ⟨ih0, ih1⟩ := spec_ChainOf.mono_l k
 unfold spec_ChainOf.f
 repeat' first
   | (with_reducible exact ih0 _ _ _ _ _ _)
   | (with_reducible exact ih1 _ _ _ _ _ _ _)
   | (with_reducible exact spec_Chop.mono _ _)
   | (with_reducible exact LeO.refl _)
   | (with_reducible exact LeO.none _)
   | (with_reducible refine LeO.ite ?_ ?_)
   | (with_reducible refine LeO.bind ?_ (fun _ => ?_))
   | exact ih0 _ _ _ _ _ _
   | exact ih1 _ _ _ _ _ _ _
   | exact spec_Chop.mono _ _
   | exact LeO.none _
   | refine LeO.ite ?_ ?_
   | refine LeO.bind ?_ (fun _ => ?_)
theorem spec_ChainOf.calls (k : Nat) (a0 : ByteArray) (a1 : Int) (a2 : Int) (a3 : Int) (a4 : Int) (r : ByteArray) (w : World) (h : spec_ChainOf.f k a0 a1 a2 a3 a4 = some r) :
  Calls Tryd.prog 71 #[.string a0, .int .i64 a1, .int .i64 a2, .int .i64 a3, .int .i64 a4] w fun e w' => e = .returned (.string r) ∧ Below w.heap.size w w' := by
 have HB := Aside0.mk (Below.refl w.heap.size w)
 have H : (spec_ChainOf.l0 k a0 a1 a2 a3 a4 0) = some r := h
 clear h
 have H' := Aside0.mk H
 clear H
 go_enter Tryd.func71, Tryd.ntmps71
 go_wp2
 go_loopg [0, 11] k (fun kq v0 v11 w' => ∃ (x0_1 : ByteArray) (x11_1 : Int), v0 = .string x0_1 ∧ v11 = .int .i64 x11_1 ∧ Aside0 (spec_ChainOf.l0 kq x0_1 a1 a2 a3 a4 x11_1 = some r) ∧ Aside0 (kq ≤ k) ∧ Aside0 (Below w.heap.size w w'))
 case atStart => exact ⟨(a0), (0), (by first | rfl | (simp; done) | (simp [*]; done)), (by first | rfl | (simp; done) | (simp [*]; done)), H', ⟨Nat.le_refl _⟩, ⟨hB_⟩⟩
 case round =>
  clear H'
  try clear p2
  obtain ⟨x0_1, x11_1, rfl, rfl, HA, HK1, HB⟩ := hrel
  cases gk with
  | zero => exact absurd HA.out (by simp [spec_ChainOf.l0])
  | succ k1 =>
   have H := HA.out
   clear HA
   simp only [spec_ChainOf.l0] at H
   have HC6 := Aside0.mk H
   clear H
   go_upto_region 2 with (fail)
   go_cut [18] (fun v18 wc => ∃ (kq : Nat) (x18_5 : Bool), v18 = .bool x18_5 ∧ Aside0 (spec_ChainOf.j1 kq x0_1 a1 a2 a3 a4 x11_1 x18_5 = some r) ∧ Aside0 (kq ≤ k1) ∧ Aside0 (Below w.heap.size w wc))
   case first =>
    have H := HC6.out
    clear HC6
    by_cases c7 : x11_1 < a4
    ·rw [if_pos c7] at H
     have c7b0 := decide_eq_true c7
     clear c7
     (first | rw [c7b0] | (simp only [i64_w, i32_w]; rw [c7b0]) | skip)
     have H' := Aside0.mk H
     clear H
     go_wp2
     go_meet
     case rel => exact ⟨_, (decide (x11_1 < 15)), (by first | rfl | (simp; done) | (simp [*]; done)), H', ⟨by have := HK1.out; first | omega | exact Nat.le_refl _⟩, ⟨hB_⟩⟩
    rw [if_neg c7] at H
    have c7b0 := decide_eq_false c7
    clear c7
    (first | rw [c7b0] | (simp only [i64_w, i32_w]; rw [c7b0]) | skip)
    have H' := Aside0.mk H
    clear H
    go_wp2
    go_meet
    case rel => exact ⟨_, (false), (by first | rfl | (simp; done) | (simp [*]; done)), H', ⟨by have := HK1.out; first | omega | exact Nat.le_refl _⟩, ⟨hB_⟩⟩
   case rest =>
    clear HC6
    try clear p2
    try clear c7
    try clear c7b0
    try clear p2
    obtain ⟨kq, x18_5, rfl, HA, HJ5, HB⟩ := hcut
    cases kq with
    | zero => exact absurd HA.out (by simp [spec_ChainOf.j1])
    | succ kj5 =>
     have H := HA.out
     clear HA
     simp only [spec_ChainOf.j1] at H
     by_cases c8 : x18_5 = true
     ·subst c8
      have H1 : ((spec_l06Byte.f a1).bind fun t273 => ((spec_l06Byte.f a2).bind fun t274 => (if t273.size + t274.size ≤ 9223372036854775807 then ((spec_l06Byte.f (wrap64 ((Int.tmod a3 256) + x11_1))).bind fun t275 => (if (t273 ++ t274).size + t275.size ≤ 9223372036854775807 then (if ((t273 ++ t274) ++ t275).size + x0_1.size ≤ 9223372036854775807 then ((spec_Chop.f kj5 (((t273 ++ t274) ++ t275) ++ x0_1)).bind fun t276 => (spec_ChainOf.l0 kj5 t276 a1 a2 a3 a4 (wrap64 (x11_1 + 1)))) else (none)) else (none))) else (none)))) = some r := by rw [if_pos rfl] at H; exact H
      clear H
      have H := H1
      clear H1
      replace H := Option.bind_eq_some_iff.mp H
      obtain ⟨t273, A90, H⟩ := H
      try dsimp -simprocs only at H
      have A9 := Aside0.mk A90
      clear A90
      replace H := Option.bind_eq_some_iff.mp H
      obtain ⟨t274, A100, H⟩ := H
      try dsimp -simprocs only at H
      have A10 := Aside0.mk A100
      clear A100
      obtain ⟨c11, H⟩ := iN_ H
      have c11b0 := eq_true c11
      have c11b1 := decide_eq_true c11
      try have c11b2 : (9223372036854775807 < t273.size + t274.size) = False := eq_false (Nat.not_lt.2 c11)
      replace H := Option.bind_eq_some_iff.mp H
      obtain ⟨t275, A120, H⟩ := H
      try dsimp -simprocs only at H
      have A12 := Aside0.mk A120
      clear A120
      obtain ⟨c13, H⟩ := iN_ H
      have c13b0 := eq_true c13
      have c13b1 := decide_eq_true c13
      try have c13b2 : (9223372036854775807 < (t273 ++ t274).size + t275.size) = False := eq_false (Nat.not_lt.2 c13)
      try (have c13b9 : (9223372036854775807 < (t273 ++ t274).size + t275.size) = False := c13b2; simp only [ByteArray.size_append] at c13b9)
      obtain ⟨c14, H⟩ := iN_ H
      have c14b0 := eq_true c14
      have c14b1 := decide_eq_true c14
      try have c14b2 : (9223372036854775807 < ((t273 ++ t274) ++ t275).size + x0_1.size) = False := eq_false (Nat.not_lt.2 c14)
      try (have c14b9 : (9223372036854775807 < ((t273 ++ t274) ++ t275).size + x0_1.size) = False := c14b2; simp only [ByteArray.size_append] at c14b9)
      replace H := Option.bind_eq_some_iff.mp H
      obtain ⟨t276, A150, H⟩ := H
      try dsimp -simprocs only at H
      have A15 := Aside0.mk A150
      clear A150
      have H' := Aside0.mk H
      clear H
      go_wp2_with (first | ((with_reducible refine gate_callee (f := 65) rfl ?_); refine goesL_ (some 22) rfl rfl Tryd.func65 (by kernel_rfl) rfl #[.int .i64 a1] rfl aM_ ?_; (with_reducible refine (spec_l06Byte.calls a1 t273 _ A9.out).mono ?_); rintro e w16 ⟨rfl, hb⟩; refine ⟨_, rfl, ?_⟩; have n0_ := Aside0.mk (below_step (hB_) hb); replace HB := n0_; clear n0_; (try clear hb)) | ((with_reducible refine gate_callee (f := 65) rfl ?_); refine goesL_ (some 24) rfl rfl Tryd.func65 (by kernel_rfl) rfl #[.int .i64 a2] rfl aM_ ?_; (with_reducible refine (spec_l06Byte.calls a2 t274 _ A10.out).mono ?_); rintro e w17 ⟨rfl, hb⟩; refine ⟨_, rfl, ?_⟩; have n0_ := Aside0.mk (below_step (hB_) hb); replace HB := n0_; clear n0_; (try clear hb)) | ((with_reducible refine gate_callee (f := 65) rfl ?_); refine goesL_ (some 30) rfl rfl Tryd.func65 (by kernel_rfl) rfl #[.int .i64 (wrap64 ((Int.tmod a3 256) + x11_1))] rfl aM_ ?_; (with_reducible refine (spec_l06Byte.calls (wrap64 ((Int.tmod a3 256) + x11_1)) t275 _ A12.out).mono ?_); rintro e w18 ⟨rfl, hb⟩; refine ⟨_, rfl, ?_⟩; have n0_ := Aside0.mk (below_step (hB_) hb); replace HB := n0_; clear n0_; (try clear hb)) | ((with_reducible refine gate_callee (f := 72) rfl ?_); refine goesL_ (some 34) rfl rfl Tryd.func72 (by kernel_rfl) rfl #[.string (((t273 ++ t274) ++ t275) ++ x0_1)] rfl aM_ ?_; (with_reducible refine (spec_Chop.calls kj5 (((t273 ++ t274) ++ t275) ++ x0_1) t276 _ A15.out).mono ?_); rintro e w19 ⟨rfl, hb⟩; refine ⟨_, rfl, ?_⟩; have n0_ := Aside0.mk (below_step (hB_) hb); replace HB := n0_; clear n0_; (try clear hb)))
      go_roundg kj5
      case measure => have := HK1.out; have := HJ5.out; omega
      case rel => exact ⟨(t276), (wrap64 (x11_1 + 1)), (by first | rfl | (simp; done) | (simp [*]; done)), (by first | rfl | (simp; done) | (simp [*]; done)), H', ⟨by have := HK1.out; have := HJ5.out; omega⟩, ⟨hB_⟩⟩
     ·replace c8 := Bool.eq_false_iff.mpr c8
      subst c8
      have H1 : (some x0_1) = some r := by rw [if_neg (show ¬ (false = true) by decide)] at H; exact H
      clear H
      have H := H1
      clear H1
      obtain rfl := Option.some.inj H
      go_wp2
      go_ret
      exact ⟨by first | rfl | (simp [errW_none, errW_some] <;> rfl) | (simp [*, errW_none, errW_some] <;> rfl), hB_⟩

/-! ### spec_OnceFound: function 16 -/
def spec_OnceFound.l0 : Nat → List ByteArray → Int → List Int → ByteArray → Int → Option (ByteArray)
 | 0, _, _, _, _, _ => none
 | k + 1, x0, x1, x7, x8, x9 => if x9 < 10 then (if 0 ≤ x9 then (if x9 < (x0.length : Int) then (if x9 < (x7.length : Int) then ((spec_ChainOf.f k (rdOf ByteArray.empty x0 x9) x1 x9 (rd x7 x9) (wrap64 (15 - (rd x7 x9)))).bind fun t283 => (if x8.size + t283.size ≤ 9223372036854775807 then (spec_OnceFound.l0 k x0 x1 x7 (x8 ++ t283) (wrap64 (x9 + 1))) else (none))) else (none)) else (none)) else (none)) else ((spec_Chop.f k x8).bind fun t284 => (some t284))
def spec_OnceFound.f (k : Nat) (l0 : List ByteArray) (a1 : Int) (a2 : ByteArray) : Option (ByteArray) := if (l0.length : Int) = 10 then ((spec_DigitsOf.f k a2).bind fun t277 => (spec_OnceFound.l0 k l0 a1 t277 (⟨#[]⟩ : ByteArray) 0)) else (some (⟨#[]⟩ : ByteArray))
theorem spec_OnceFound.mono_l : ∀ k, (∀ y0 y1 y2 y3 y4, LeO (spec_OnceFound.l0 k y0 y1 y2 y3 y4) (spec_OnceFound.l0 (k + 1) y0 y1 y2 y3 y4))
 | 0 => fun _ _ _ _ _ r h => by simp [spec_OnceFound.l0] at h
 | k + 1 => by
  have ih0 := spec_OnceFound.mono_l k
  ·intro y0 y1 y2 y3 y4
   unfold spec_OnceFound.l0
   repeat' first
   | (with_reducible exact ih0 _ _ _ _ _)
   | (with_reducible exact spec_ChainOf.mono _ _ _ _ _ _)
   | (with_reducible exact spec_Chop.mono _ _)
   | (with_reducible exact spec_DigitsOf.mono _ _)
   | (with_reducible exact LeO.refl _)
   | (with_reducible exact LeO.none _)
   | (with_reducible refine LeO.ite ?_ ?_)
   | (with_reducible refine LeO.bind ?_ (fun _ => ?_))
   | exact ih0 _ _ _ _ _
   | exact spec_ChainOf.mono _ _ _ _ _ _
   | exact spec_Chop.mono _ _
   | exact spec_DigitsOf.mono _ _
   | exact LeO.none _
   | refine LeO.ite ?_ ?_
   | refine LeO.bind ?_ (fun _ => ?_)
theorem spec_OnceFound.mono : ∀ a0 a1 a2 k, LeO (spec_OnceFound.f k a0 a1 a2) (spec_OnceFound.f (k + 1) a0 a1 a2) := by
 intro a0 a1 a2 k
 have ih0 := spec_OnceFound.mono_l k
 unfold spec_OnceFound.f
 repeat' first
   | (with_reducible exact ih0 _ _ _ _ _)
   | (with_reducible exact spec_ChainOf.mono _ _ _ _ _ _)
   | (with_reducible exact spec_Chop.mono _ _)
   | (with_reducible exact spec_DigitsOf.mono _ _)
   | (with_reducible exact LeO.refl _)
   | (with_reducible exact LeO.none _)
   | (with_reducible refine LeO.ite ?_ ?_)
   | (with_reducible refine LeO.bind ?_ (fun _ => ?_))
   | exact ih0 _ _ _ _ _
   | exact spec_ChainOf.mono _ _ _ _ _ _
   | exact spec_Chop.mono _ _
   | exact spec_DigitsOf.mono _ _
   | exact LeO.none _
   | refine LeO.ite ?_ ?_
   | refine LeO.bind ?_ (fun _ => ?_)
def spec_OnceFound.T8 : Bool × List (List Nat × List Nat) := (true, [([], []), ([], []), ([], []), ([1, 2], [1, 2]), ([3], [3]), ([], []), ([], []), ([], []), ([], []), ([7, 8], [7, 8]), ([9], [9]), ([], []), ([], []), ([11, 12], [11, 12]), ([13], [13]), ([14], [14]), ([4, 5, 6, 10, 15], [4, 5, 6, 10, 15]), ([0, 16], [0, 16]), ([17, 16, 0, 1, 2, 3, 4, 5, 6, 7, 8, 9, 10, 11, 12, 13, 14, 15, 16, 17], [0, 17])])
def spec_OnceFound.B8 : List Nat := [0, 0, 0, 6, 14, 0, 0, 0, 0, 384, 896, 0, 0, 6144, 14336, 30720, 65534, 131071, 262143]
theorem spec_OnceFound.tab8 : rtab .any (opsOf Tryd.f16 8) = spec_OnceFound.T8 := by kernel_rfl
theorem spec_OnceFound.bits8 : waitsOk spec_OnceFound.T8.2 spec_OnceFound.B8 = true := by kernel_rfl
theorem spec_OnceFound.calls (k : Nat) (A0 : Option Addr) (c0 : Nat) (l0 : List ByteArray) (a1 : Int) (a2 : ByteArray) (r : ByteArray) (w : World) (hr0 : Kd.C Kd.string w A0 l0.length l0) (hc0 : l0.length ≤ c0) (h : spec_OnceFound.f k l0 a1 a2 = some r) :
  Calls Tryd.prog 16 #[.slice A0 l0.length c0, .int .i64 a1, .string a2] w fun e w' => e = .returned (.string r) ∧ Below w.heap.size w w' := by
 have HR0 := Aside0.mk hr0
 have HC0 := Aside0.mk hc0
 clear hr0 hc0
 have HB := Aside0.mk (Below.refl w.heap.size w)
 have H : (if (l0.length : Int) = 10 then ((spec_DigitsOf.f k a2).bind fun t277 => (spec_OnceFound.l0 k l0 a1 t277 (⟨#[]⟩ : ByteArray) 0)) else (some (⟨#[]⟩ : ByteArray))) = some r := h
 clear h
 by_cases c4 : (l0.length : Int) = 10
 rotate_left
 ·rw [if_neg c4] at H
  have c4b0 : ((l0.length : Int) == 10) = false := beq_eq_false_iff_ne.mpr c4
  have c4b1 : ((l0.length : Int) != 10) = true := bne_iff_ne.mpr c4
  obtain rfl := Option.some.inj H
  go_enter Tryd.func16, Tryd.ntmps16
  go_wp2
  go_ret
  exact ⟨by first | rfl | (simp [errW_none, errW_some] <;> rfl) | (simp [*, errW_none, errW_some] <;> rfl), hB_⟩
 rw [if_pos c4] at H
 have c4b0 : ((l0.length : Int) == 10) = true := beq_iff_eq.mpr c4
 have c4b1 : ((l0.length : Int) != 10) = false := bne_eq_false_iff_eq.mpr c4
 clear c4
 replace H := Option.bind_eq_some_iff.mp H
 obtain ⟨t277, A50, H⟩ := H
 try dsimp -simprocs only at H
 have A5 := Aside0.mk A50
 clear A50
 have H' := Aside0.mk H
 clear H
 go_enter Tryd.func16, Tryd.ntmps16
 go_wp2_with (first | ((with_reducible refine gate_callee (f := 70) rfl ?_); refine goesL_ (some 14) rfl rfl Tryd.func70 (by kernel_rfl) rfl #[.string a2] rfl aM_ ?_; (with_reducible refine (spec_DigitsOf.calls k a2 t277 _ A5.out).mono ?_); rintro e w6 ⟨v278, rfl, ho0, hb⟩; refine ⟨_, rfl, ?_⟩; have n0_ := Aside0.mk (Kd.R_lower ho0 (below_size (hB_))); have n1_ := Aside0.mk (below_step (hB_) hb); have HO279 := n0_; replace HB := n1_; clear n0_ n1_; (try clear hb); (try clear ho0)))
 go_loopg [8, 9] k (fun kq v8 v9 w' => ∃ (x8_1 : ByteArray) (x9_1 : Int), v8 = .string x8_1 ∧ v9 = .int .i64 x9_1 ∧ Aside0 (spec_OnceFound.l0 kq l0 a1 t277 x8_1 x9_1 = some r) ∧ Aside0 (kq ≤ k) ∧ Aside0 (Kd.R (Kd.int .i64) 3 w' w.heap.size (fun _ => True) v278 t277) ∧ Aside0 (Below w.heap.size w w'))
 case atStart => exact ⟨((⟨#[]⟩ : ByteArray)), (0), (by first | rfl | (simp; done) | (simp [*]; done)), (by first | rfl | (simp; done) | (simp [*]; done)), H', ⟨Nat.le_refl _⟩, ⟨rR_ HO279.out⟩, ⟨hB_⟩⟩
 case round =>
  clear H'
  try clear c1
  try clear p2
  try clear c4
  try clear c4b0
  try clear c4b1
  obtain ⟨x8_1, x9_1, rfl, rfl, HA, HK1, HO_7, HB⟩ := hrel
  cases gk with
  | zero => exact absurd HA.out (by simp [spec_OnceFound.l0])
  | succ k1 =>
   have H := HA.out
   clear HA
   simp only [spec_OnceFound.l0] at H
   by_cases c7 : x9_1 < 10
   rotate_left
   ·rw [if_neg c7] at H
    have c7b0 := decide_eq_false c7
    clear c7
    replace H := Option.bind_eq_some_iff.mp H
    obtain ⟨t284, A160, H⟩ := H
    try dsimp -simprocs only at H
    have A16 := Aside0.mk A160
    clear A160
    obtain rfl := Option.some.inj H
    go_wp2_with (first | ((with_reducible refine gate_callee (f := 72) rfl ?_); refine goesL_ (some 38) rfl rfl Tryd.func72 (by kernel_rfl) rfl #[.string x8_1] rfl aM_ ?_; (with_reducible refine (spec_Chop.calls k1 x8_1 t284 _ A16.out).mono ?_); rintro e w17 ⟨rfl, hb⟩; refine ⟨_, rfl, ?_⟩; have n0_ := Aside0.mk (Kd.R_below (rR_ HO_7.out) hb); have n1_ := Aside0.mk (below_step (hB_) hb); replace HO_7 := n0_; replace HB := n1_; clear n0_ n1_; (try clear hb)))
    go_ret
    exact ⟨by first | rfl | (simp [errW_none, errW_some] <;> rfl) | (simp [*, errW_none, errW_some] <;> rfl), hB_⟩
   rw [if_pos c7] at H
   have c7b0 := decide_eq_true c7
   clear c7
   obtain ⟨c8, H⟩ := iN_ H
   have c8b0 := decide_eq_true c8
   clear c8
   obtain ⟨c9, H⟩ := iN_ H
   have c9b0 := decide_eq_true c9
   clear c9
   obtain ⟨c10, H⟩ := iN_ H
   have c10b0 := decide_eq_true c10
   clear c10
   replace H := Option.bind_eq_some_iff.mp H
   obtain ⟨t283, A110, H⟩ := H
   try dsimp -simprocs only at H
   have A11 := Aside0.mk A110
   clear A110
   obtain ⟨c12, H⟩ := iN_ H
   have c12b0 := eq_true c12
   have c12b1 := decide_eq_true c12
   try have c12b2 : (9223372036854775807 < x8_1.size + t283.size) = False := eq_false (Nat.not_lt.2 c12)
   have H' := Aside0.mk H
   clear H
   try go_wp2
   have n0_ := Aside0.mk (Kd.R_drew HO_7.out)
   have n1_ := Aside0.mk (below_drew1 HB.out)
   clear HO_7
   clear HB
   have HO_7 := n0_
   have HB := n1_
   clear n0_ n1_
   have p280 : 0 ≤ (x9_1 : Int) := of_decide_eq_true (by first | (with_reducible assumption) | assumption)
   have q280 : x9_1 < (l0.length : Int) := of_decide_eq_true (by first | (with_reducible assumption) | assumption)
   obtain ⟨ad280, e280, hx280_0⟩ := Kd.at_string HR0.out x9_1 p280 q280
   have hw280_0 := hx280_0
   cases e280
   replace hx280_0 := (HB.out.cell (World.block_lt_of_cell? w _ hx280_0)).trans hx280_0
   replace p280 := eq_true p280
   replace q280 := eq_true q280
   obtain ⟨Ao14, co14, eo14⟩ := Kd.R_slice HO_7.out
   (first | subst eo14 | (injection eo14 with f1_ f2_ f3_; have f4_ := f1_.symm; have f5_ := f3_.symm; clear f1_ f2_ f3_; subst f4_; subst f5_))
   have p281 : 0 ≤ (x9_1 : Int) := of_decide_eq_true (by first | (with_reducible assumption) | assumption)
   have q281 : x9_1 < (t277.length : Int) := of_decide_eq_true (by first | (with_reducible assumption) | assumption)
   obtain ⟨ad281, e281, hx281_0⟩ := Kd.at_int (Kd.R_reads' HO_7.out).2.2 x9_1 p281 q281
   cases e281
   replace p281 := eq_true p281
   replace q281 := eq_true q281
   have p282 : 0 ≤ (x9_1 : Int) := of_decide_eq_true (by first | (with_reducible assumption) | assumption)
   have q282 : x9_1 < (t277.length : Int) := of_decide_eq_true (by first | (with_reducible assumption) | assumption)
   obtain ⟨ad282, e282, hx282_0⟩ := Kd.at_int (Kd.R_reads' HO_7.out).2.2 x9_1 p282 q282
   obtain rfl : ad281 = ad282 := (by injection e282)
   replace p282 := eq_true p282
   replace q282 := eq_true q282
   refine start_ (n := 19) (S := fun w' => w'.cell? (ad280.add (x9_1).toNat) = some (.string (rdOf ByteArray.empty l0 x9_1)) ∧ w'.cell? (ad281.add (x9_1).toNat) = some (.int .i64 (rd t277 x9_1)) ∧ w'.cell? (ad281.add (x9_1).toNat) = some (.int .i64 (rd t277 x9_1))) (ds := []) (bb_ 19 0) (by kernel_rfl) rfl rfl ⟨((HB.out.cell (World.block_lt_of_cell? w _ hw280_0)).trans hw280_0), hx281_0, hx282_0⟩ (fun hHeld => ?_); refine with_tabW spec_OnceFound.tab8 spec_OnceFound.bits8 (fun HT_ HW_ => ?_)
   generalize wr.drew = w13 at HO_7 HB hx280_0 hx281_0 hx282_0 hHeld ⊢
   refine pS_ 0 19 (bb_ 19 1) HT_.out ?_
   refine pS_ 1 20 (bb_ 19 3) HT_.out ?_
   refine pS_ 2 21 (bb_ 19 7) HT_.out ?_
   refine pS_ 3 22 (bb_ 19 15) HT_.out ?_
   refine pS_ 5 24 (bb_ 19 47) HT_.out ?_
   refine pS_ 6 25 (bb_ 19 111) HT_.out ?_
   refine pS_ 7 26 (bb_ 19 239) HT_.out ?_
   refine pS_ 8 27 (bb_ 19 495) HT_.out ?_
   refine pS_ 9 28 (bb_ 19 1007) HT_.out ?_
   refine pS_ 11 30 (bb_ 19 3055) HT_.out ?_
   refine pS_ 12 31 (bb_ 19 7151) HT_.out ?_
   refine pS_ 13 32 (bb_ 19 15343) HT_.out ?_
   refine tS_ 4 23 (bb_ 19 15359) (take_ofW HT_.out HW_.out (by kernel_rfl)) hHeld ?_
   refine tS_ 10 29 (bb_ 19 16383) (take_ofW HT_.out HW_.out (by kernel_rfl)) hHeld ?_
   refine tS_ 14 33 (bb_ 19 32767) (take_ofW HT_.out HW_.out (by kernel_rfl)) hHeld ?_
   refine pS_ 15 34 (bb_ 19 65535) HT_.out ?_
   refine one_ (i := 16) (N := some 35) (bb_ 19 131071) rfl rfl (one_of HT_.out (by kernel_rfl)) (by decide) (fun K hK => ?_)
   refine goes_ Tryd.func71 (by kernel_rfl) rfl #[.string (rdOf ByteArray.empty l0 x9_1), .int .i64 a1, .int .i64 x9_1, .int .i64 (rd t277 x9_1), .int .i64 (wrap64 (15 - (rd t277 x9_1)))] (by rfl) rfl rfl aM_ ?_
   with_reducible refine (spec_ChainOf.calls k1 (rdOf ByteArray.empty l0 x9_1) a1 x9_1 (rd t277 x9_1) (wrap64 (15 - (rd t277 x9_1))) t283 _ A11.out).mono ?_
   rintro e w15 ⟨rfl, hb⟩
   have HS1_ := (hb.cell (World.block_lt_of_cell? _ _ (hHeld.2.1))).trans (hHeld.2.1)
   have HS2_ := (hb.cell (World.block_lt_of_cell? _ _ (hHeld.2.2))).trans (hHeld.2.2)
   refine ⟨_, rfl, ?_⟩
   have n0_ := Aside0.mk (Kd.R_below (rR_ HO_7.out) hb)
   have n1_ := Aside0.mk (below_step (hB_) hb)
   clear HO_7
   clear HB
   have HO_7 := n0_
   have HB := n1_
   clear n0_ n1_
   (try clear hb)
   (try clear hb2)
   (try clear hk)
   (try clear hi)
   refine hK.out _ _ ⟨((HB.out.cell (World.block_lt_of_cell? w _ hw280_0)).trans hw280_0), HS1_, HS2_⟩ (fun hHeld => ?_)
   clear hK K
   refine norm_ (a' := ?_) ?_ ?_
   rotate_left
   ·show Act.put _ (some 35) _ = _
    simp only [Act.put, List.setIfInBounds_toArray, List.set_cons_zero, List.set_cons_succ, i64_w, i32_w]
    rfl
   refine pS_ 17 36 (bb_ 19 262143) HT_.out ?_
   refine pS_ 18 8 (bb_ 19 524287) HT_.out ?_
   refine done_ (done_of HT_.out (by kernel_rfl)) ?_
   try go_wp2
   go_roundg k1
   case measure => have := HK1.out; omega
   case rel => exact ⟨(x8_1 ++ t283), (wrap64 (x9_1 + 1)), (by first | rfl | (simp; done) | (simp [*]; done)), (by first | rfl | (simp; done) | (simp [*]; done)), H', ⟨by have := HK1.out; omega⟩, ⟨rR_ HO_7.out⟩, ⟨hB_⟩⟩

/-! ### spec_Node: function 114 -/
def spec_Node.f (k : Nat) (a0 : Int) (a1 : Int) (a2 : ByteArray) (a3 : ByteArray) : Option (ByteArray) := (spec_l06Byte.f a0).bind fun t289 => ((spec_l06Byte.f a1).bind fun t290 => (if t289.size + t290.size ≤ 9223372036854775807 then (if (t289 ++ t290).size + a2.size ≤ 9223372036854775807 then (if ((t289 ++ t290) ++ a2).size + a3.size ≤ 9223372036854775807 then (if (((t289 ++ t290) ++ a2) ++ a3).size + 1 ≤ 9223372036854775807 then ((spec_Chop.f k ((((t289 ++ t290) ++ a2) ++ a3) ++ (⟨#[110]⟩ : ByteArray))).bind fun t291 => (some t291)) else (none)) else (none)) else (none)) else (none)))
theorem spec_Node.mono : ∀ a0 a1 a2 a3 k, LeO (spec_Node.f k a0 a1 a2 a3) (spec_Node.f (k + 1) a0 a1 a2 a3) := by
 intro a0 a1 a2 a3 k
 unfold spec_Node.f
 repeat' first
   | (with_reducible exact spec_Chop.mono _ _)
   | (with_reducible exact LeO.refl _)
   | (with_reducible exact LeO.none _)
   | (with_reducible refine LeO.ite ?_ ?_)
   | (with_reducible refine LeO.bind ?_ (fun _ => ?_))
   | exact spec_Chop.mono _ _
   | exact LeO.none _
   | refine LeO.ite ?_ ?_
   | refine LeO.bind ?_ (fun _ => ?_)
theorem spec_Node.calls (k : Nat) (a0 : Int) (a1 : Int) (a2 : ByteArray) (a3 : ByteArray) (r : ByteArray) (w : World) (h : spec_Node.f k a0 a1 a2 a3 = some r) :
  Calls Tryd.prog 114 #[.int .i64 a0, .int .i64 a1, .string a2, .string a3] w fun e w' => e = .returned (.string r) ∧ Below w.heap.size w w' := by
 have HB := Aside0.mk (Below.refl w.heap.size w)
 have H : ((spec_l06Byte.f a0).bind fun t289 => ((spec_l06Byte.f a1).bind fun t290 => (if t289.size + t290.size ≤ 9223372036854775807 then (if (t289 ++ t290).size + a2.size ≤ 9223372036854775807 then (if ((t289 ++ t290) ++ a2).size + a3.size ≤ 9223372036854775807 then (if (((t289 ++ t290) ++ a2) ++ a3).size + 1 ≤ 9223372036854775807 then ((spec_Chop.f k ((((t289 ++ t290) ++ a2) ++ a3) ++ (⟨#[110]⟩ : ByteArray))).bind fun t291 => (some t291)) else (none)) else (none)) else (none)) else (none)))) = some r := h
 clear h
 replace H := Option.bind_eq_some_iff.mp H
 obtain ⟨t289, A50, H⟩ := H
 try dsimp -simprocs only at H
 have A5 := Aside0.mk A50
 clear A50
 replace H := Option.bind_eq_some_iff.mp H
 obtain ⟨t290, A60, H⟩ := H
 try dsimp -simprocs only at H
 have A6 := Aside0.mk A60
 clear A60
 obtain ⟨c7, H⟩ := iN_ H
 have c7b0 := eq_true c7
 have c7b1 := decide_eq_true c7
 try have c7b2 : (9223372036854775807 < t289.size + t290.size) = False := eq_false (Nat.not_lt.2 c7)
 obtain ⟨c8, H⟩ := iN_ H
 have c8b0 := eq_true c8
 have c8b1 := decide_eq_true c8
 try have c8b2 : (9223372036854775807 < (t289 ++ t290).size + a2.size) = False := eq_false (Nat.not_lt.2 c8)
 try (have c8b9 : (9223372036854775807 < (t289 ++ t290).size + a2.size) = False := c8b2; simp only [ByteArray.size_append] at c8b9)
 obtain ⟨c9, H⟩ := iN_ H
 have c9b0 := eq_true c9
 have c9b1 := decide_eq_true c9
 try have c9b2 : (9223372036854775807 < ((t289 ++ t290) ++ a2).size + a3.size) = False := eq_false (Nat.not_lt.2 c9)
 try (have c9b9 : (9223372036854775807 < ((t289 ++ t290) ++ a2).size + a3.size) = False := c9b2; simp only [ByteArray.size_append] at c9b9)
 obtain ⟨c10, H⟩ := iN_ H
 have c10b0 := eq_true c10
 have c10b1 := decide_eq_true c10
 try have c10b2 : (9223372036854775807 < (((t289 ++ t290) ++ a2) ++ a3).size + 1) = False := eq_false (Nat.not_lt.2 c10)
 try (have c10b9 : (9223372036854775807 < (((t289 ++ t290) ++ a2) ++ a3).size + 1) = False := c10b2; simp only [ByteArray.size_append] at c10b9)
 replace H := Option.bind_eq_some_iff.mp H
 obtain ⟨t291, A110, H⟩ := H
 try dsimp -simprocs only at H
 have A11 := Aside0.mk A110
 clear A110
 obtain rfl := Option.some.inj H
 go_enter Tryd.func114, Tryd.ntmps114
 go_wp2_with (first | ((with_reducible refine gate_callee (f := 65) rfl ?_); refine goesL_ (some 10) rfl rfl Tryd.func65 (by kernel_rfl) rfl #[.int .i64 a0] rfl aM_ ?_; (with_reducible refine (spec_l06Byte.calls a0 t289 _ A5.out).mono ?_); rintro e w12 ⟨rfl, hb⟩; refine ⟨_, rfl, ?_⟩; have n0_ := Aside0.mk (below_step (hB_) hb); replace HB := n0_; clear n0_; (try clear hb)) | ((with_reducible refine gate_callee (f := 65) rfl ?_); refine goesL_ (some 12) rfl rfl Tryd.func65 (by kernel_rfl) rfl #[.int .i64 a1] rfl aM_ ?_; (with_reducible refine (spec_l06Byte.calls a1 t290 _ A6.out).mono ?_); rintro e w13 ⟨rfl, hb⟩; refine ⟨_, rfl, ?_⟩; have n0_ := Aside0.mk (below_step (hB_) hb); replace HB := n0_; clear n0_; (try clear hb)) | ((with_reducible refine gate_callee (f := 72) rfl ?_); refine goesL_ (some 19) rfl rfl Tryd.func72 (by kernel_rfl) rfl #[.string ((((t289 ++ t290) ++ a2) ++ a3) ++ (⟨#[110]⟩ : ByteArray))] rfl aM_ ?_; (with_reducible refine (spec_Chop.calls k ((((t289 ++ t290) ++ a2) ++ a3) ++ (⟨#[110]⟩ : ByteArray)) t291 _ A11.out).mono ?_); rintro e w14 ⟨rfl, hb⟩; refine ⟨_, rfl, ?_⟩; have n0_ := Aside0.mk (below_step (hB_) hb); replace HB := n0_; clear n0_; (try clear hb)))
 go_ret
 exact ⟨by first | rfl | (simp [errW_none, errW_some] <;> rfl) | (simp [*, errW_none, errW_some] <;> rfl), hB_⟩

/-! ### spec_RootBy: function 85 -/
mutual
def spec_RootBy.j0 : Nat → ByteArray → Int → List ByteArray → Bool → Option (ByteArray)
 | 0, _, _, _, _ => none
 | k + 1, x0, x1, x2, x15 => if x15 = true then (some (⟨#[]⟩ : ByteArray)) else (spec_RootBy.l0 k x0 x1 x2 1)
def spec_RootBy.l0 : Nat → ByteArray → Int → List ByteArray → Int → Option (ByteArray)
 | 0, _, _, _, _ => none
 | k + 1, x0, x1, x2, x7 => if x7 ≤ 2 then (if (Int.tmod x1 2) = 1 then (if 0 ≤ (wrap64 (x7 - 1)) then (if (wrap64 (x7 - 1)) < (x2.length : Int) then ((spec_Node.f k x7 (wrap64 (Int.tdiv x1 2)) (rdOf ByteArray.empty x2 (wrap64 (x7 - 1))) x0).bind fun t294 => (spec_RootBy.l0 k t294 (wrap64 (Int.tdiv x1 2)) x2 (wrap64 (x7 + 1)))) else (none)) else (none)) else (if 0 ≤ (wrap64 (x7 - 1)) then (if (wrap64 (x7 - 1)) < (x2.length : Int) then ((spec_Node.f k x7 (wrap64 (Int.tdiv x1 2)) x0 (rdOf ByteArray.empty x2 (wrap64 (x7 - 1)))).bind fun t296 => (spec_RootBy.l0 k t296 (wrap64 (Int.tdiv x1 2)) x2 (wrap64 (x7 + 1)))) else (none)) else (none))) else (some x0)
end
def spec_RootBy.f (k : Nat) (a0 : ByteArray) (a1 : Int) (l2 : List ByteArray) : Option (ByteArray) := if (l2.length : Int) = 2 then ((spec_l01In.f a1 0 3).bind fun t292 => (spec_RootBy.j0 k a0 a1 l2 (!t292))) else (spec_RootBy.j0 k a0 a1 l2 true)
theorem spec_RootBy.mono_l : ∀ k, (∀ y0 y1 y2 y3, LeO (spec_RootBy.j0 k y0 y1 y2 y3) (spec_RootBy.j0 (k + 1) y0 y1 y2 y3)) ∧ (∀ y0 y1 y2 y3, LeO (spec_RootBy.l0 k y0 y1 y2 y3) (spec_RootBy.l0 (k + 1) y0 y1 y2 y3))
 | 0 => ⟨fun _ _ _ _ r h => by simp [spec_RootBy.j0] at h, fun _ _ _ _ r h => by simp [spec_RootBy.l0] at h⟩
 | k + 1 => by
  obtain ⟨ih0, ih1⟩ := spec_RootBy.mono_l k
  refine ⟨?_, ?_⟩
  ·intro y0 y1 y2 y3
   unfold spec_RootBy.j0
   repeat' first
   | (with_reducible exact ih0 _ _ _ _)
   | (with_reducible exact ih1 _ _ _ _)
   | (with_reducible exact spec_Node.mono _ _ _ _ _)
   | (with_reducible exact LeO.refl _)
   | (with_reducible exact LeO.none _)
   | (with_reducible refine LeO.ite ?_ ?_)
   | (with_reducible refine LeO.bind ?_ (fun _ => ?_))
   | exact ih0 _ _ _ _
   | exact ih1 _ _ _ _
   | exact spec_Node.mono _ _ _ _ _
   | exact LeO.none _
   | refine LeO.ite ?_ ?_
   | refine LeO.bind ?_ (fun _ => ?_)
  ·intro y0 y1 y2 y3
   unfold spec_RootBy.l0
   repeat' first
   | (with_reducible exact ih0 _ _ _ _)
   | (with_reducible exact ih1 _ _ _ _)
   | (with_reducible exact spec_Node.mono _ _ _ _ _)
   | (with_reducible exact LeO.refl _)
   | (with_reducible exact LeO.none _)
   | (with_reducible refine LeO.ite ?_ ?_)
   | (with_reducible refine LeO.bind ?_ (fun _ => ?_))
   | exact ih0 _ _ _ _
   | exact ih1 _ _ _ _
   | exact spec_Node.mono _ _ _ _ _
   | exact LeO.none _
   | refine LeO.ite ?_ ?_
   | refine LeO.bind ?_ (fun _ => ?_)
theorem spec_RootBy.mono : ∀ a0 a1 a2 k, LeO (spec_RootBy.f k a0 a1 a2) (spec_RootBy.f (k + 1) a0 a1 a2) := by
 intro a0 a1 a2 k
 obtain ⟨ih0, ih1⟩ := spec_RootBy.mono_l k
 unfold spec_RootBy.f
 repeat' first
   | (with_reducible exact ih0 _ _ _ _)
   | (with_reducible exact ih1 _ _ _ _)
   | (with_reducible exact spec_Node.mono _ _ _ _ _)
   | (with_reducible exact LeO.refl _)
   | (with_reducible exact LeO.none _)
   | (with_reducible refine LeO.ite ?_ ?_)
   | (with_reducible refine LeO.bind ?_ (fun _ => ?_))
   | exact ih0 _ _ _ _
   | exact ih1 _ _ _ _
   | exact spec_Node.mono _ _ _ _ _
   | exact LeO.none _
   | refine LeO.ite ?_ ?_
   | refine LeO.bind ?_ (fun _ => ?_)
theorem spec_RootBy.calls (k : Nat) (a0 : ByteArray) (a1 : Int) (A2 : Option Addr) (c2 : Nat) (l2 : List ByteArray) (r : ByteArray) (w : World) (hr2 : Kd.C Kd.string w A2 l2.length l2) (hc2 : l2.length ≤ c2) (h : spec_RootBy.f k a0 a1 l2 = some r) :
  Calls Tryd.prog 85 #[.string a0, .int .i64 a1, .slice A2 l2.length c2] w fun e w' => e = .returned (.string r) ∧ Below w.heap.size w w' := by
 have HR2 := Aside0.mk hr2
 have HC2 := Aside0.mk hc2
 clear hr2 hc2
 have HB := Aside0.mk (Below.refl w.heap.size w)
 have H : (if (l2.length : Int) = 2 then ((spec_l01In.f a1 0 3).bind fun t292 => (spec_RootBy.j0 k a0 a1 l2 (!t292))) else (spec_RootBy.j0 k a0 a1 l2 true)) = some r := h
 clear h
 have HC4 := Aside0.mk H
 clear H
 go_enter Tryd.func85, Tryd.ntmps85
 go_upto_region 1 with (fail)
 go_cut [15] (fun v15 wc => ∃ (kq : Nat) (x15_3 : Bool), v15 = .bool x15_3 ∧ Aside0 (spec_RootBy.j0 kq a0 a1 l2 x15_3 = some r) ∧ Aside0 (kq ≤ k) ∧ Aside0 (Below w.heap.size w wc))
 case first =>
  have H := HC4.out
  clear HC4
  by_cases c5 : (l2.length : Int) = 2
  ·rw [if_pos c5] at H
   have c5b0 : ((l2.length : Int) == 2) = true := beq_iff_eq.mpr c5
   have c5b1 : ((l2.length : Int) != 2) = false := bne_eq_false_iff_eq.mpr c5
   clear c5
   (first | rw [c5b0] | (simp only [i64_w, i32_w]; rw [c5b0]) | skip)
   replace H := Option.bind_eq_some_iff.mp H
   obtain ⟨t292, A60, H⟩ := H
   try dsimp -simprocs only at H
   have A6 := Aside0.mk A60
   clear A60
   have H' := Aside0.mk H
   clear H
   go_wp2_with (first | (go_at_call 62; (with_reducible refine (spec_l01In.calls a1 0 3 t292 _ A6.out).mono ?_); rintro e w' ⟨rfl, ⟨nd, rfl⟩⟩))
   go_meet
   case rel => exact ⟨_, (!t292), (by first | rfl | (simp; done) | (simp [*]; done)), H', ⟨by first | omega | exact Nat.le_refl _⟩, ⟨hB_⟩⟩
  rw [if_neg c5] at H
  have c5b0 : ((l2.length : Int) == 2) = false := beq_eq_false_iff_ne.mpr c5
  have c5b1 : ((l2.length : Int) != 2) = true := bne_iff_ne.mpr c5
  (first | rw [c5b0] | (simp only [i64_w, i32_w]; rw [c5b0]) | skip)
  have H' := Aside0.mk H
  clear H
  go_wp2
  go_meet
  case rel => exact ⟨_, (true), (by first | rfl | (simp; done) | (simp [*]; done)), H', ⟨by first | omega | exact Nat.le_refl _⟩, ⟨hB_⟩⟩
 case rest =>
  clear HC4
  try clear c2
  try clear p2
  try clear c5
  try clear c5b0
  try clear c5b1
  obtain ⟨kq, x15_3, rfl, HA, HJ3, HB⟩ := hcut
  cases kq with
  | zero => exact absurd HA.out (by simp [spec_RootBy.j0])
  | succ kj3 =>
   have H := HA.out
   clear HA
   simp only [spec_RootBy.j0] at H
   by_cases c7 : x15_3 = true
   ·subst c7
    have H1 : (some (⟨#[]⟩ : ByteArray)) = some r := by rw [if_pos rfl] at H; exact H
    clear H
    have H := H1
    clear H1
    obtain rfl := Option.some.inj H
    go_wp2
    go_ret
    exact ⟨by first | rfl | (simp [errW_none, errW_some] <;> rfl) | (simp [*, errW_none, errW_some] <;> rfl), hB_⟩
   ·replace c7 := Bool.eq_false_iff.mpr c7
    subst c7
    have H1 : (spec_RootBy.l0 kj3 a0 a1 l2 1) = some r := by rw [if_neg (show ¬ (false = true) by decide)] at H; exact H
    clear H
    have H := H1
    clear H1
    have H' := Aside0.mk H
    clear H
    go_wp2
    go_loopg [0, 1, 7] kj3 (fun kq v0 v1 v7 w' => ∃ (x0_2 : ByteArray) (x1_2 : Int) (x7_2 : Int), v0 = .string x0_2 ∧ v1 = .int .i64 x1_2 ∧ v7 = .int .i64 x7_2 ∧ Aside0 (spec_RootBy.l0 kq x0_2 x1_2 l2 x7_2 = some r) ∧ Aside0 (kq ≤ kj3) ∧ Aside0 (Below w.heap.size w w'))
    case atStart => exact ⟨(a0), (a1), (1), (by first | rfl | (simp; done) | (simp [*]; done)), (by first | rfl | (simp; done) | (simp [*]; done)), (by first | rfl | (simp; done) | (simp [*]; done)), H', ⟨Nat.le_refl _⟩, ⟨hB_⟩⟩
    case round =>
     clear H'
     try clear c2
     try clear p2
     try clear c5
     try clear c5b0
     try clear c5b1
     try clear c7
     try clear p2
     obtain ⟨x0_2, x1_2, x7_2, rfl, rfl, rfl, HA, HK2, HB⟩ := hrel
     cases gk with
     | zero => exact absurd HA.out (by simp [spec_RootBy.l0])
     | succ k2 =>
      have H := HA.out
      clear HA
      simp only [spec_RootBy.l0] at H
      by_cases c8 : x7_2 ≤ 2
      rotate_left
      ·rw [if_neg c8] at H
       have c8b0 := decide_eq_false c8
       clear c8
       obtain rfl := Option.some.inj H
       go_wp2
       go_ret
       exact ⟨by first | rfl | (simp [errW_none, errW_some] <;> rfl) | (simp [*, errW_none, errW_some] <;> rfl), hB_⟩
      rw [if_pos c8] at H
      have c8b0 := decide_eq_true c8
      clear c8
      by_cases c9 : (Int.tmod x1_2 2) = 1
      ·rw [if_pos c9] at H
       have c9b0 : ((Int.tmod x1_2 2) == 1) = true := beq_iff_eq.mpr c9
       have c9b1 : ((Int.tmod x1_2 2) != 1) = false := bne_eq_false_iff_eq.mpr c9
       clear c9
       obtain ⟨ji10, hji10⟩ : ∃ j_ : Int, (wrap64 (x7_2 - 1)) = j_ := ⟨_, rfl⟩
       first | rw [hji10] at H | simp only [hji10] at H
       have hji10w : (IntKind.i64.wrap (x7_2 - 1)) = ji10 := (i64_w _).trans hji10
       obtain ⟨c11, H⟩ := iN_ H
       have c11b0 := decide_eq_true c11
       clear c11
       obtain ⟨c12, H⟩ := iN_ H
       have c12b0 := decide_eq_true c12
       clear c12
       replace H := Option.bind_eq_some_iff.mp H
       obtain ⟨t294, A130, H⟩ := H
       try dsimp -simprocs only at H
       have A13 := Aside0.mk A130
       clear A130
       have H' := Aside0.mk H
       clear H
       have p293 : 0 ≤ ((ji10) : Int) := of_decide_eq_true (by first | (with_reducible assumption) | assumption)
       have q293 : (ji10) < (l2.length : Int) := of_decide_eq_true (by first | (with_reducible assumption) | assumption)
       obtain ⟨ad293, e293, hx293_0⟩ := Kd.at_string HR2.out (ji10) p293 q293
       cases e293
       replace hx293_0 := (HB.out.cell (World.block_lt_of_cell? w _ hx293_0)).trans hx293_0
       replace p293 := eq_true p293
       replace q293 := eq_true q293
       go_wp2_with (first | ((with_reducible refine gate_callee (f := 114) rfl ?_); refine goesL_ (some 32) rfl rfl Tryd.func114 (by kernel_rfl) rfl #[.int .i64 x7_2, .int .i64 (wrap64 (Int.tdiv x1_2 2)), .string (rdOf ByteArray.empty l2 (ji10)), .string x0_2] rfl (by (try simp only [List.map_toArray, List.map_cons, List.map_nil]); first | done | (simp only [hji10]; rfl) | rfl | (simp only [List.length_drop, List.length_take]; rfl)) ?_; (with_reducible refine (spec_Node.calls k2 x7_2 (wrap64 (Int.tdiv x1_2 2)) (rdOf ByteArray.empty l2 (ji10)) x0_2 t294 _ A13.out).mono ?_); rintro e w14 ⟨rfl, hb⟩; refine ⟨_, rfl, ?_⟩; have n0_ := Aside0.mk (below_step (hB_) hb); replace HB := n0_; clear n0_; (try clear hb)))
       go_roundg k2
       case measure => have := HJ3.out; have := HK2.out; omega
       case rel => exact ⟨(t294), (wrap64 (Int.tdiv x1_2 2)), (wrap64 (x7_2 + 1)), (by first | rfl | (simp; done) | (simp [*]; done)), (by first | rfl | (simp; done) | (simp [*]; done)), (by first | rfl | (simp; done) | (simp [*]; done)), H', ⟨by have := HJ3.out; have := HK2.out; omega⟩, ⟨hB_⟩⟩
      rw [if_neg c9] at H
      have c9b0 : ((Int.tmod x1_2 2) == 1) = false := beq_eq_false_iff_ne.mpr c9
      have c9b1 : ((Int.tmod x1_2 2) != 1) = true := bne_iff_ne.mpr c9
      obtain ⟨ji15, hji15⟩ : ∃ j_ : Int, (wrap64 (x7_2 - 1)) = j_ := ⟨_, rfl⟩
      first | rw [hji15] at H | simp only [hji15] at H
      have hji15w : (IntKind.i64.wrap (x7_2 - 1)) = ji15 := (i64_w _).trans hji15
      obtain ⟨c16, H⟩ := iN_ H
      have c16b0 := decide_eq_true c16
      clear c16
      obtain ⟨c17, H⟩ := iN_ H
      have c17b0 := decide_eq_true c17
      clear c17
      replace H := Option.bind_eq_some_iff.mp H
      obtain ⟨t296, A180, H⟩ := H
      try dsimp -simprocs only at H
      have A18 := Aside0.mk A180
      clear A180
      have H' := Aside0.mk H
      clear H
      have p295 : 0 ≤ ((ji15) : Int) := of_decide_eq_true (by first | (with_reducible assumption) | assumption)
      have q295 : (ji15) < (l2.length : Int) := of_decide_eq_true (by first | (with_reducible assumption) | assumption)
      obtain ⟨ad295, e295, hx295_0⟩ := Kd.at_string HR2.out (ji15) p295 q295
      cases e295
      replace hx295_0 := (HB.out.cell (World.block_lt_of_cell? w _ hx295_0)).trans hx295_0
      replace p295 := eq_true p295
      replace q295 := eq_true q295
      go_wp2_with (first | ((with_reducible refine gate_callee (f := 114) rfl ?_); refine goesL_ (some 42) rfl rfl Tryd.func114 (by kernel_rfl) rfl #[.int .i64 x7_2, .int .i64 (wrap64 (Int.tdiv x1_2 2)), .string x0_2, .string (rdOf ByteArray.empty l2 (ji15))] rfl (by (try simp only [List.map_toArray, List.map_cons, List.map_nil]); first | done | (simp only [hji15]; rfl) | rfl | (simp only [List.length_drop, List.length_take]; rfl)) ?_; (with_reducible refine (spec_Node.calls k2 x7_2 (wrap64 (Int.tdiv x1_2 2)) x0_2 (rdOf ByteArray.empty l2 (ji15)) t296 _ A18.out).mono ?_); rintro e w19 ⟨rfl, hb⟩; refine ⟨_, rfl, ?_⟩; have n0_ := Aside0.mk (below_step (hB_) hb); replace HB := n0_; clear n0_; (try clear hb)))
      go_roundg k2
      case measure => have := HJ3.out; have := HK2.out; omega
      case rel => exact ⟨(t296), (wrap64 (Int.tdiv x1_2 2)), (wrap64 (x7_2 + 1)), (by first | rfl | (simp; done) | (simp [*]; done)), (by first | rfl | (simp; done) | (simp [*]; done)), (by first | rfl | (simp; done) | (simp [*]; done)), H', ⟨by have := HJ3.out; have := HK2.out; omega⟩, ⟨hB_⟩⟩

/-! ### spec_CheckSig: function 29 -/
def spec_CheckSig.f (k : Nat) (a0 : ByteArray) (a1 : ByteArray) (a2_0 : Int) (l2_1 : List ByteArray) (l2_2 : List ByteArray) : Option (Bool) := (spec_SigOk.f k a2_0 l2_1 l2_2).bind fun t298 => (if t298 = true then ((spec_OnceFound.f k l2_1 a2_0 a1).bind fun t299 => ((spec_RootBy.f k t299 a2_0 l2_2).bind fun t300 => (some (t300.toList == a0.toList)))) else (some false))
theorem spec_CheckSig.mono : ∀ a0 a1 a2 a3 a4 k, LeO (spec_CheckSig.f k a0 a1 a2 a3 a4) (spec_CheckSig.f (k + 1) a0 a1 a2 a3 a4) := by
 intro a0 a1 a2 a3 a4 k
 unfold spec_CheckSig.f
 repeat' first
   | (with_reducible exact spec_OnceFound.mono _ _ _ _)
   | (with_reducible exact spec_RootBy.mono _ _ _ _)
   | (with_reducible exact spec_SigOk.mono _ _ _ _)
   | (with_reducible exact LeO.refl _)
   | (with_reducible exact LeO.none _)
   | (with_reducible refine LeO.ite ?_ ?_)
   | (with_reducible refine LeO.bind ?_ (fun _ => ?_))
   | exact spec_OnceFound.mono _ _ _ _
   | exact spec_RootBy.mono _ _ _ _
   | exact spec_SigOk.mono _ _ _ _
   | exact LeO.none _
   | refine LeO.ite ?_ ?_
   | refine LeO.bind ?_ (fun _ => ?_)
def spec_CheckSig.T1 : Bool × List (List Nat × List Nat) := (true, [([], []), ([0], [0]), ([1, 1], [1]), ([2], [2]), ([3, 2], [2, 3]), ([2], [2]), ([5, 2], [2, 5]), ([2], [2]), ([4, 6, 7, 2, 2], [2, 4, 6, 7]), ([2], [2]), ([9, 2], [2, 9]), ([2], [2]), ([11, 2], [2, 11]), ([8, 10, 12, 8, 2], [2, 8, 10, 12]), ([2], [2]), ([13, 14, 2], [2, 13, 14]), ([2, 15], [2, 15]), ([16, 13, 0, 1, 2, 3, 4, 5, 6, 7, 8, 9, 10, 11, 12, 13, 14, 15, 16], [16])])
def spec_CheckSig.B1 : List Nat := [0, 1, 3, 7, 15, 7, 39, 7, 255, 7, 519, 7, 2055, 8191, 7, 32767, 65535, 131071]
theorem spec_CheckSig.tab1 : rtab .any (opsOf Tryd.f29 1) = spec_CheckSig.T1 := by kernel_rfl
theorem spec_CheckSig.bits1 : waitsOk spec_CheckSig.T1.2 spec_CheckSig.B1 = true := by kernel_rfl
theorem spec_CheckSig.calls (k : Nat) (a0 : ByteArray) (a1 : ByteArray) (a2_0 : Int) (A2_1 : Option Addr) (c2_1 : Nat) (l2_1 : List ByteArray) (A2_2 : Option Addr) (c2_2 : Nat) (l2_2 : List ByteArray) (r : Bool) (w : World) (hr2_1 : Kd.C Kd.string w A2_1 l2_1.length l2_1) (hc2_1 : l2_1.length ≤ c2_1) (hr2_2 : Kd.C Kd.string w A2_2 l2_2.length l2_2) (hc2_2 : l2_2.length ≤ c2_2) (h : spec_CheckSig.f k a0 a1 a2_0 l2_1 l2_2 = some r) :
  Calls Tryd.prog 29 #[.string a0, .string a1, .agg #[.int .i64 a2_0, .slice A2_1 l2_1.length c2_1, .slice A2_2 l2_2.length c2_2]] w fun e w' => e = .returned (.bool r) ∧ Below w.heap.size w w' := by
 have hu42 := Tryd.underlying42
 have HR2_1 := Aside0.mk hr2_1
 have HC2_1 := Aside0.mk hc2_1
 clear hr2_1 hc2_1
 have HR2_2 := Aside0.mk hr2_2
 have HC2_2 := Aside0.mk hc2_2
 clear hr2_2 hc2_2
 have HB := Aside0.mk (Below.refl w.heap.size w)
 have H : ((spec_SigOk.f k a2_0 l2_1 l2_2).bind fun t298 => (if t298 = true then ((spec_OnceFound.f k l2_1 a2_0 a1).bind fun t299 => ((spec_RootBy.f k t299 a2_0 l2_2).bind fun t300 => (some (t300.toList == a0.toList)))) else (some false))) = some r := h
 clear h
 replace H := Option.bind_eq_some_iff.mp H
 obtain ⟨t298, A40, H⟩ := H
 try dsimp -simprocs only at H
 have A4 := Aside0.mk A40
 clear A40
 by_cases c5 : t298 = true
 ·subst c5
  have H1 : ((spec_OnceFound.f k l2_1 a2_0 a1).bind fun t299 => ((spec_RootBy.f k t299 a2_0 l2_2).bind fun t300 => (some (t300.toList == a0.toList)))) = some r := by rw [if_pos rfl] at H; exact H
  clear H
  have H := H1
  clear H1
  replace H := Option.bind_eq_some_iff.mp H
  obtain ⟨t299, A60, H⟩ := H
  try dsimp -simprocs only at H
  have A6 := Aside0.mk A60
  clear A60
  replace H := Option.bind_eq_some_iff.mp H
  obtain ⟨t300, A70, H⟩ := H
  try dsimp -simprocs only at H
  have A7 := Aside0.mk A70
  clear A70
  obtain rfl := Option.some.inj H
  go_enter Tryd.func29, Tryd.ntmps29
  try go_wp2_with (first | ((with_reducible refine gate_dst (N := 5) rfl ?_); refine box_event ?hg (N := 5) ?hd (cs := #[.int .i64 a2_0, .slice A2_1 l2_1.length c2_1, .slice A2_2 l2_2.length c2_2]) (t := 42) ?hr ?_; (case hd => rfl); (case hg => rfl); (case hr => first | (go_simp; done) | (go_simp; rfl)); intro gb297 hg w8 hbox hb; have n0_ := Aside0.mk (below_step (hB_) hb); have n1_ := Aside0.mk (hbox); have n2_ := Aside0.mk ((by rw [hg]; exact (below_size (hB_)) : w.heap.size ≤ gb297)); have n3_ := Aside0.mk ((by rw [hg]; exact (below_size (hB_)) : w.heap.size ≤ gb297)); replace HB := n0_; have BK297 := n1_; have GW297 := n2_; have GE297 := n3_; clear n0_ n1_ n2_ n3_; clear hb hbox hg))
  have n0_ := Aside0.mk (blk_drew BK297.out)
  have n1_ := Aside0.mk (below_drew1 HB.out)
  clear BK297
  clear HB
  have BK297 := n0_
  have HB := n1_
  clear n0_ n1_
  refine start_ (n := 18) (S := fun w' => w'.cell? ⟨gb297, 0, none⟩ = some (.int .i64 a2_0) ∧ w'.cell? ⟨gb297, 1, none⟩ = some (.slice A2_1 l2_1.length c2_1) ∧ w'.cell? ⟨gb297, 2, none⟩ = some (.slice A2_2 l2_2.length c2_2)) (ds := []) (bb_ 18 0) (by kernel_rfl) rfl rfl ⟨(blk_cell BK297.out 0).trans rfl, (blk_cell BK297.out 1).trans rfl, (blk_cell BK297.out 2).trans rfl⟩ (fun hHeld => ?_); refine with_tabW spec_CheckSig.tab1 spec_CheckSig.bits1 (fun HT_ HW_ => ?_)
  generalize w8.drew = w9 at BK297 HB hHeld ⊢
  refine tS_ 0 7 (bb_ 18 1) (take_ofW HT_.out HW_.out (by kernel_rfl)) hHeld ?_
  refine one_ (i := 1) (N := some 8) (bb_ 18 3) rfl rfl (one_of HT_.out (by kernel_rfl)) (by decide) (fun K hK => ?_)
  refine goes_ Tryd.func53 (by kernel_rfl) rfl #[.agg #[.int .i64 a2_0, .slice A2_1 l2_1.length c2_1, .slice A2_2 l2_2.length c2_2]] (by rfl) rfl rfl aM_ ?_
  with_reducible refine (spec_SigOk.calls k a2_0 _ _ l2_1 _ _ l2_2 true _ ?side1 ?side2 ?side3 ?side4 A4.out).mono ?_
  (case side1 => exact cR_ (Kd.C_below HR2_1.out HB.out))
  (case side2 => exact HC2_1.out)
  (case side3 => exact cR_ (Kd.C_below HR2_2.out HB.out))
  (case side4 => exact HC2_2.out)
  rintro e w10 ⟨rfl, hb⟩
  refine ⟨_, rfl, ?_⟩
  have n0_ := Aside0.mk (blk_below (g := gb297) (o := .cells #[.int .i64 a2_0, .slice A2_1 l2_1.length c2_1, .slice A2_2 l2_2.length c2_2] 42 (0, 0)) (rK_ BK297.out) hb)
  have n1_ := Aside0.mk (below_step (hS_ GE297.out) hb)
  clear BK297
  clear HB
  have BK297 := n0_
  have HB := n1_
  clear n0_ n1_
  (try clear hb)
  (try clear hb2)
  (try clear hk)
  (try clear hi)
  refine hK.out _ _ ⟨(blk_cell BK297.out 0).trans rfl, (blk_cell BK297.out 1).trans rfl, (blk_cell BK297.out 2).trans rfl⟩ (fun hHeld => ?_)
  clear hK K
  refine norm_ (a' := ?_) ?_ ?_
  rotate_left
  ·show Act.put _ (some 8) _ = _
   simp only [Act.put, List.setIfInBounds_toArray, List.set_cons_zero, List.set_cons_succ, i64_w, i32_w]
   rfl
  refine pS_ 2 9 (bb_ 18 7) HT_.out ?_
  refine pS_ 3 10 (bb_ 18 15) HT_.out ?_
  refine pS_ 5 12 (bb_ 18 47) HT_.out ?_
  refine pS_ 7 14 (bb_ 18 175) HT_.out ?_
  refine pS_ 9 16 (bb_ 18 687) HT_.out ?_
  refine pS_ 11 18 (bb_ 18 2735) HT_.out ?_
  refine pS_ 14 21 (bb_ 18 19119) HT_.out ?_
  refine tS_ 4 11 (bb_ 18 19135) (take_ofW HT_.out HW_.out (by kernel_rfl)) hHeld ?_
  refine tS_ 6 13 (bb_ 18 19199) (take_ofW HT_.out HW_.out (by kernel_rfl)) hHeld ?_
  refine tS_ 10 17 (bb_ 18 20223) (take_ofW HT_.out HW_.out (by kernel_rfl)) hHeld ?_
  refine tS_ 12 19 (bb_ 18 24319) (take_ofW HT_.out HW_.out (by kernel_rfl)) hHeld ?_
  refine one_ (i := 8) (N := some 15) (bb_ 18 24575) rfl rfl (one_of HT_.out (by kernel_rfl)) (by decide) (fun K hK => ?_)
  refine goes_ Tryd.func16 (by kernel_rfl) rfl #[.slice A2_1 l2_1.length c2_1, .int .i64 a2_0, .string a1] (by rfl) rfl rfl aM_ ?_
  with_reducible refine (spec_OnceFound.calls k _ _ l2_1 a2_0 a1 t299 _ ?side1 ?side2 A6.out).mono ?_
  (case side1 => exact cR_ (Kd.C_below HR2_1.out HB.out))
  (case side2 => exact HC2_1.out)
  rintro e w11 ⟨rfl, hb⟩
  refine ⟨_, rfl, ?_⟩
  have n0_ := Aside0.mk (blk_below (g := gb297) (o := .cells #[.int .i64 a2_0, .slice A2_1 l2_1.length c2_1, .slice A2_2 l2_2.length c2_2] 42 (0, 0)) (rK_ BK297.out) hb)
  have n1_ := Aside0.mk (below_step (hS_ GE297.out) hb)
  clear BK297
  clear HB
  have BK297 := n0_
  have HB := n1_
  clear n0_ n1_
  (try clear hb)
  (try clear hb2)
  (try clear hk)
  (try clear hi)
  refine hK.out _ _ ⟨(blk_cell BK297.out 0).trans rfl, (blk_cell BK297.out 1).trans rfl, (blk_cell BK297.out 2).trans rfl⟩ (fun hHeld => ?_)
  clear hK K
  refine norm_ (a' := ?_) ?_ ?_
  rotate_left
  ·show Act.put _ (some 15) _ = _
   simp only [Act.put, List.setIfInBounds_toArray, List.set_cons_zero, List.set_cons_succ, i64_w, i32_w]
   rfl
  refine one_ (i := 13) (N := some 20) (bb_ 18 32767) rfl rfl (one_of HT_.out (by kernel_rfl)) (by decide) (fun K hK => ?_)
  refine goes_ Tryd.func85 (by kernel_rfl) rfl #[.string t299, .int .i64 a2_0, .slice A2_2 l2_2.length c2_2] (by rfl) rfl rfl aM_ ?_
  with_reducible refine (spec_RootBy.calls k t299 a2_0 _ _ l2_2 t300 _ ?side1 ?side2 A7.out).mono ?_
  (case side1 => exact cR_ (Kd.C_below HR2_2.out HB.out))
  (case side2 => exact HC2_2.out)
  rintro e w12 ⟨rfl, hb⟩
  refine ⟨_, rfl, ?_⟩
  have n0_ := Aside0.mk (blk_below (g := gb297) (o := .cells #[.int .i64 a2_0, .slice A2_1 l2_1.length c2_1, .slice A2_2 l2_2.length c2_2] 42 (0, 0)) (rK_ BK297.out) hb)
  have n1_ := Aside0.mk (below_step (hS_ GE297.out) hb)
  clear BK297
  clear HB
  have BK297 := n0_
  have HB := n1_
  clear n0_ n1_
  (try clear hb)
  (try clear hb2)
  (try clear hk)
  (try clear hi)
  refine hK.out _ _ ⟨(blk_cell BK297.out 0).trans rfl, (blk_cell BK297.out 1).trans rfl, (blk_cell BK297.out 2).trans rfl⟩ (fun hHeld => ?_)
  clear hK K
  refine norm_ (a' := ?_) ?_ ?_
  rotate_left
  ·show Act.put _ (some 20) _ = _
   simp only [Act.put, List.setIfInBounds_toArray, List.set_cons_zero, List.set_cons_succ, i64_w, i32_w]
   rfl
  refine pS_ 15 22 (bb_ 18 65535) HT_.out ?_
  refine pS_ 16 23 (bb_ 18 131071) HT_.out ?_
  refine pS_ 17 6 (bb_ 18 262143) HT_.out ?_
  refine done_ (done_of HT_.out (by kernel_rfl)) ?_
  try go_wp2
  go_ret
  exact ⟨by first | rfl | (simp [errW_none, errW_some] <;> rfl) | (simp [*, errW_none, errW_some] <;> rfl), hS_ GE297.out⟩
 ·replace c5 := Bool.eq_false_iff.mpr c5
  subst c5
  have H1 : (some false) = some r := by rw [if_neg (show ¬ (false = true) by decide)] at H; exact H
  clear H
  have H := H1
  clear H1
  obtain rfl := Option.some.inj H
  go_enter Tryd.func29, Tryd.ntmps29
  try go_wp2_with (first | ((with_reducible refine gate_dst (N := 5) rfl ?_); refine box_event ?hg (N := 5) ?hd (cs := #[.int .i64 a2_0, .slice A2_1 l2_1.length c2_1, .slice A2_2 l2_2.length c2_2]) (t := 42) ?hr ?_; (case hd => rfl); (case hg => rfl); (case hr => first | (go_simp; done) | (go_simp; rfl)); intro gb297 hg w13 hbox hb; have n0_ := Aside0.mk (below_step (hB_) hb); have n1_ := Aside0.mk (hbox); have n2_ := Aside0.mk ((by rw [hg]; exact (below_size (hB_)) : w.heap.size ≤ gb297)); have n3_ := Aside0.mk ((by rw [hg]; exact (below_size (hB_)) : w.heap.size ≤ gb297)); replace HB := n0_; have BK297 := n1_; have GW297 := n2_; have GE297 := n3_; clear n0_ n1_ n2_ n3_; clear hb hbox hg))
  have n0_ := Aside0.mk (blk_drew BK297.out)
  have n1_ := Aside0.mk (below_drew1 HB.out)
  clear BK297
  clear HB
  have BK297 := n0_
  have HB := n1_
  clear n0_ n1_
  refine start_ (n := 18) (S := fun w' => w'.cell? ⟨gb297, 0, none⟩ = some (.int .i64 a2_0) ∧ w'.cell? ⟨gb297, 1, none⟩ = some (.slice A2_1 l2_1.length c2_1) ∧ w'.cell? ⟨gb297, 2, none⟩ = some (.slice A2_2 l2_2.length c2_2)) (ds := []) (bb_ 18 0) (by kernel_rfl) rfl rfl ⟨(blk_cell BK297.out 0).trans rfl, (blk_cell BK297.out 1).trans rfl, (blk_cell BK297.out 2).trans rfl⟩ (fun hHeld => ?_); refine with_tabW spec_CheckSig.tab1 spec_CheckSig.bits1 (fun HT_ HW_ => ?_)
  generalize w13.drew = w14 at BK297 HB hHeld ⊢
  refine tS_ 0 7 (bb_ 18 1) (take_ofW HT_.out HW_.out (by kernel_rfl)) hHeld ?_
  refine one_ (i := 1) (N := some 8) (bb_ 18 3) rfl rfl (one_of HT_.out (by kernel_rfl)) (by decide) (fun K hK => ?_)
  refine goes_ Tryd.func53 (by kernel_rfl) rfl #[.agg #[.int .i64 a2_0, .slice A2_1 l2_1.length c2_1, .slice A2_2 l2_2.length c2_2]] (by rfl) rfl rfl aM_ ?_
  with_reducible refine (spec_SigOk.calls k a2_0 _ _ l2_1 _ _ l2_2 false _ ?side1 ?side2 ?side3 ?side4 A4.out).mono ?_
  (case side1 => exact cR_ (Kd.C_below HR2_1.out HB.out))
  (case side2 => exact HC2_1.out)
  (case side3 => exact cR_ (Kd.C_below HR2_2.out HB.out))
  (case side4 => exact HC2_2.out)
  rintro e w15 ⟨rfl, hb⟩
  refine ⟨_, rfl, ?_⟩
  have n0_ := Aside0.mk (blk_below (g := gb297) (o := .cells #[.int .i64 a2_0, .slice A2_1 l2_1.length c2_1, .slice A2_2 l2_2.length c2_2] 42 (0, 0)) (rK_ BK297.out) hb)
  have n1_ := Aside0.mk (below_step (hS_ GE297.out) hb)
  clear BK297
  clear HB
  have BK297 := n0_
  have HB := n1_
  clear n0_ n1_
  (try clear hb)
  (try clear hb2)
  (try clear hk)
  (try clear hi)
  refine hK.out _ _ ⟨(blk_cell BK297.out 0).trans rfl, (blk_cell BK297.out 1).trans rfl, (blk_cell BK297.out 2).trans rfl⟩ (fun hHeld => ?_)
  clear hK K
  refine norm_ (a' := ?_) ?_ ?_
  rotate_left
  ·show Act.put _ (some 8) _ = _
   simp only [Act.put, List.setIfInBounds_toArray, List.set_cons_zero, List.set_cons_succ, i64_w, i32_w]
   rfl
  refine pS_ 2 9 (bb_ 18 7) HT_.out ?_
  refine pU_ 3 10 (bb_ 18 15) HT_.out ?_
  refine pU_ 4 11 (bb_ 18 31) HT_.out ?_
  refine pU_ 5 12 (bb_ 18 63) HT_.out ?_
  refine pU_ 6 13 (bb_ 18 127) HT_.out ?_
  refine pU_ 7 14 (bb_ 18 255) HT_.out ?_
  refine pU_ 8 15 (bb_ 18 511) HT_.out ?_
  refine pU_ 9 16 (bb_ 18 1023) HT_.out ?_
  refine pU_ 10 17 (bb_ 18 2047) HT_.out ?_
  refine pU_ 11 18 (bb_ 18 4095) HT_.out ?_
  refine pU_ 12 19 (bb_ 18 8191) HT_.out ?_
  refine pU_ 13 20 (bb_ 18 16383) HT_.out ?_
  refine pU_ 14 21 (bb_ 18 32767) HT_.out ?_
  refine pU_ 15 22 (bb_ 18 65535) HT_.out ?_
  refine pS_ 16 23 (bb_ 18 131071) HT_.out ?_
  refine pS_ 17 6 (bb_ 18 262143) HT_.out ?_
  refine done_ (done_of HT_.out (by kernel_rfl)) ?_
  try go_wp2
  go_ret
  exact ⟨by first | rfl | (simp [errW_none, errW_some] <;> rfl) | (simp [*, errW_none, errW_some] <;> rfl), hS_ GE297.out⟩

/-! ### spec_HyperCheck: function 34 -/
def spec_HyperCheck.f (k : Nat) (a0 : ByteArray) (a1 : ByteArray) (a2_0 : Int) (l2_1 : List ByteArray) (l2_2 : List ByteArray) (a2_3 : ByteArray) (a2_4 : Int) (l2_5 : List ByteArray) (l2_6 : List ByteArray) : Option (Bool) := (spec_CheckSig.f k a0 a2_3 a2_0 l2_1 l2_2).bind fun t302 => (if t302 = true then ((spec_CheckSig.f k a2_3 a1 a2_4 l2_5 l2_6).bind fun t303 => (some t303)) else (some false))
theorem spec_HyperCheck.mono : ∀ a0 a1 a2 a3 a4 a5 a6 a7 a8 k, LeO (spec_HyperCheck.f k a0 a1 a2 a3 a4 a5 a6 a7 a8) (spec_HyperCheck.f (k + 1) a0 a1 a2 a3 a4 a5 a6 a7 a8) := by
 intro a0 a1 a2 a3 a4 a5 a6 a7 a8 k
 unfold spec_HyperCheck.f
 repeat' first
   | (with_reducible exact spec_CheckSig.mono _ _ _ _ _ _)
   | (with_reducible exact LeO.refl _)
   | (with_reducible exact LeO.none _)
   | (with_reducible refine LeO.ite ?_ ?_)
   | (with_reducible refine LeO.bind ?_ (fun _ => ?_))
   | exact spec_CheckSig.mono _ _ _ _ _ _
   | exact LeO.none _
   | refine LeO.ite ?_ ?_
   | refine LeO.bind ?_ (fun _ => ?_)
theorem spec_HyperCheck.calls (k : Nat) (a0 : ByteArray) (a1 : ByteArray) (a2_0 : Int) (A2_1 : Option Addr) (c2_1 : Nat) (l2_1 : List ByteArray) (A2_2 : Option Addr) (c2_2 : Nat) (l2_2 : List ByteArray) (a2_3 : ByteArray) (a2_4 : Int) (A2_5 : Option Addr) (c2_5 : Nat) (l2_5 : List ByteArray) (A2_6 : Option Addr) (c2_6 : Nat) (l2_6 : List ByteArray) (r : Bool) (w : World) (hr2_1 : Kd.C Kd.string w A2_1 l2_1.length l2_1) (hc2_1 : l2_1.length ≤ c2_1) (hr2_2 : Kd.C Kd.string w A2_2 l2_2.length l2_2) (hc2_2 : l2_2.length ≤ c2_2) (hr2_5 : Kd.C Kd.string w A2_5 l2_5.length l2_5) (hc2_5 : l2_5.length ≤ c2_5) (hr2_6 : Kd.C Kd.string w A2_6 l2_6.length l2_6) (hc2_6 : l2_6.length ≤ c2_6) (h : spec_HyperCheck.f k a0 a1 a2_0 l2_1 l2_2 a2_3 a2_4 l2_5 l2_6 = some r) :
  Calls Tryd.prog 34 #[.string a0, .string a1, .agg #[.int .i64 a2_0, .slice A2_1 l2_1.length c2_1, .slice A2_2 l2_2.length c2_2, .string a2_3, .int .i64 a2_4, .slice A2_5 l2_5.length c2_5, .slice A2_6 l2_6.length c2_6]] w fun e w' => e = .returned (.bool r) ∧ Below w.heap.size w w' := by
 have hu51 := Tryd.underlying51
 have hu42 := Tryd.underlying42
 have HR2_1 := Aside0.mk hr2_1
 have HC2_1 := Aside0.mk hc2_1
 clear hr2_1 hc2_1
 have HR2_2 := Aside0.mk hr2_2
 have HC2_2 := Aside0.mk hc2_2
 clear hr2_2 hc2_2
 have HR2_5 := Aside0.mk hr2_5
 have HC2_5 := Aside0.mk hc2_5
 clear hr2_5 hc2_5
 have HR2_6 := Aside0.mk hr2_6
 have HC2_6 := Aside0.mk hc2_6
 clear hr2_6 hc2_6
 have HB := Aside0.mk (Below.refl w.heap.size w)
 have H : ((spec_CheckSig.f k a0 a2_3 a2_0 l2_1 l2_2).bind fun t302 => (if t302 = true then ((spec_CheckSig.f k a2_3 a1 a2_4 l2_5 l2_6).bind fun t303 => (some t303)) else (some false))) = some r := h
 clear h
 replace H := Option.bind_eq_some_iff.mp H
 obtain ⟨t302, A40, H⟩ := H
 try dsimp -simprocs only at H
 have A4 := Aside0.mk A40
 clear A40
 by_cases c5 : t302 = true
 ·subst c5
  have H1 : ((spec_CheckSig.f k a2_3 a1 a2_4 l2_5 l2_6).bind fun t303 => (some t303)) = some r := by rw [if_pos rfl] at H; exact H
  clear H
  have H := H1
  clear H1
  replace H := Option.bind_eq_some_iff.mp H
  obtain ⟨t303, A60, H⟩ := H
  try dsimp -simprocs only at H
  have A6 := Aside0.mk A60
  clear A60
  obtain rfl := Option.some.inj H
  go_enter Tryd.func34, Tryd.ntmps34
  go_wp2_with (first | ((with_reducible refine gate_dst (N := 5) rfl ?_); refine box_event ?hg (N := 5) ?hd (cs := #[.int .i64 a2_0, .slice A2_1 l2_1.length c2_1, .slice A2_2 l2_2.length c2_2, .string a2_3, .int .i64 a2_4, .slice A2_5 l2_5.length c2_5, .slice A2_6 l2_6.length c2_6]) (t := 51) ?hr ?_; (case hd => rfl); (case hg => rfl); (case hr => first | (go_simp; done) | (go_simp; rfl)); intro gb301 hg w7 hbox hb; have n0_ := Aside0.mk (below_step (hB_) hb); have n1_ := Aside0.mk (hbox); have n2_ := Aside0.mk ((by rw [hg]; exact (below_size (hB_)) : w.heap.size ≤ gb301)); have n3_ := Aside0.mk ((by rw [hg]; exact (below_size (hB_)) : w.heap.size ≤ gb301)); replace HB := n0_; have BK301 := n1_; have GW301 := n2_; have GE301 := n3_; clear n0_ n1_ n2_ n3_; clear hb hbox hg; have hcz8_0 : w7.cell? ⟨gb301, 0, none⟩ = some (.int .i64 a2_0) := (blk_cell BK301.out 0).trans rfl; have hcz8_1 : w7.cell? ⟨gb301, 1, none⟩ = some (.slice A2_1 l2_1.length c2_1) := (blk_cell BK301.out 1).trans rfl; have hcz8_2 : w7.cell? ⟨gb301, 2, none⟩ = some (.slice A2_2 l2_2.length c2_2) := (blk_cell BK301.out 2).trans rfl; have hcz8_3 : w7.cell? ⟨gb301, 3, none⟩ = some (.string a2_3) := (blk_cell BK301.out 3).trans rfl; have hcz8_4 : w7.cell? ⟨gb301, 4, none⟩ = some (.int .i64 a2_4) := (blk_cell BK301.out 4).trans rfl; have hcz8_5 : w7.cell? ⟨gb301, 5, none⟩ = some (.slice A2_5 l2_5.length c2_5) := (blk_cell BK301.out 5).trans rfl; have hcz8_6 : w7.cell? ⟨gb301, 6, none⟩ = some (.slice A2_6 l2_6.length c2_6) := (blk_cell BK301.out 6).trans rfl; have hfz8_0 := blk_frozen BK301.out 0; have hfz8_1 := blk_frozen BK301.out 1; have hfz8_2 := blk_frozen BK301.out 2; have hfz8_3 := blk_frozen BK301.out 3; have hfz8_4 := blk_frozen BK301.out 4; have hfz8_5 := blk_frozen BK301.out 5; have hfz8_6 := blk_frozen BK301.out 6) | ((with_reducible refine gate_callee (f := 29) rfl ?_); refine goesL_ (some 12) rfl rfl Tryd.func29 (by kernel_rfl) rfl #[.string a0, .string a2_3, .agg #[.int .i64 a2_0, .slice A2_1 l2_1.length c2_1, .slice A2_2 l2_2.length c2_2]] rfl aM_ ?_; (with_reducible refine (spec_CheckSig.calls k a0 a2_3 a2_0 _ _ l2_1 _ _ l2_2 true _ ?side1 ?side2 ?side3 ?side4 A4.out).mono ?_); (case side1 => exact cR_ (Kd.C_below HR2_1.out HB.out)); (case side2 => exact HC2_1.out); (case side3 => exact cR_ (Kd.C_below HR2_2.out HB.out)); (case side4 => exact HC2_2.out); rintro e w9 ⟨rfl, hb⟩; refine ⟨_, rfl, ?_⟩; have n0_ := Aside0.mk (blk_below (g := gb301) (o := .cells #[.int .i64 a2_0, .slice A2_1 l2_1.length c2_1, .slice A2_2 l2_2.length c2_2, .string a2_3, .int .i64 a2_4, .slice A2_5 l2_5.length c2_5, .slice A2_6 l2_6.length c2_6] 51 (0, 0)) (rK_ BK301.out) hb); have n1_ := Aside0.mk (below_step (hS_ GE301.out) hb); replace BK301 := n0_; replace HB := n1_; clear n0_ n1_; (try clear hb); have hcz10_0 : w9.cell? ⟨gb301, 0, none⟩ = some (.int .i64 a2_0) := (blk_cell BK301.out 0).trans rfl; have hcz10_1 : w9.cell? ⟨gb301, 1, none⟩ = some (.slice A2_1 l2_1.length c2_1) := (blk_cell BK301.out 1).trans rfl; have hcz10_2 : w9.cell? ⟨gb301, 2, none⟩ = some (.slice A2_2 l2_2.length c2_2) := (blk_cell BK301.out 2).trans rfl; have hcz10_3 : w9.cell? ⟨gb301, 3, none⟩ = some (.string a2_3) := (blk_cell BK301.out 3).trans rfl; have hcz10_4 : w9.cell? ⟨gb301, 4, none⟩ = some (.int .i64 a2_4) := (blk_cell BK301.out 4).trans rfl; have hcz10_5 : w9.cell? ⟨gb301, 5, none⟩ = some (.slice A2_5 l2_5.length c2_5) := (blk_cell BK301.out 5).trans rfl; have hcz10_6 : w9.cell? ⟨gb301, 6, none⟩ = some (.slice A2_6 l2_6.length c2_6) := (blk_cell BK301.out 6).trans rfl; have hfz10_0 := blk_frozen BK301.out 0; have hfz10_1 := blk_frozen BK301.out 1; have hfz10_2 := blk_frozen BK301.out 2; have hfz10_3 := blk_frozen BK301.out 3; have hfz10_4 := blk_frozen BK301.out 4; have hfz10_5 := blk_frozen BK301.out 5; have hfz10_6 := blk_frozen BK301.out 6) | (go_at_call 29; (with_reducible refine (spec_CheckSig.calls k a2_3 a1 a2_4 _ _ l2_5 _ _ l2_6 t303 _ ?side1 ?side2 ?side3 ?side4 A6.out).mono ?_); (case side1 => exact cR_ (Kd.C_below HR2_5.out HB.out)); (case side2 => exact HC2_5.out); (case side3 => exact cR_ (Kd.C_below HR2_6.out HB.out)); (case side4 => exact HC2_6.out); rintro e w11 ⟨rfl, hb⟩; have n0_ := Aside0.mk (blk_below (g := gb301) (o := .cells #[.int .i64 a2_0, .slice A2_1 l2_1.length c2_1, .slice A2_2 l2_2.length c2_2, .string a2_3, .int .i64 a2_4, .slice A2_5 l2_5.length c2_5, .slice A2_6 l2_6.length c2_6] 51 (0, 0)) (rK_ BK301.out) hb); have n1_ := Aside0.mk (below_step (hS_ GE301.out) hb); replace BK301 := n0_; replace HB := n1_; clear n0_ n1_; (try clear hb)))
  go_ret
  exact ⟨by first | rfl | (simp [errW_none, errW_some] <;> rfl) | (simp [*, errW_none, errW_some] <;> rfl), hS_ GE301.out⟩
 ·replace c5 := Bool.eq_false_iff.mpr c5
  subst c5
  have H1 : (some false) = some r := by rw [if_neg (show ¬ (false = true) by decide)] at H; exact H
  clear H
  have H := H1
  clear H1
  obtain rfl := Option.some.inj H
  go_enter Tryd.func34, Tryd.ntmps34
  go_wp2_with (first | ((with_reducible refine gate_dst (N := 5) rfl ?_); refine box_event ?hg (N := 5) ?hd (cs := #[.int .i64 a2_0, .slice A2_1 l2_1.length c2_1, .slice A2_2 l2_2.length c2_2, .string a2_3, .int .i64 a2_4, .slice A2_5 l2_5.length c2_5, .slice A2_6 l2_6.length c2_6]) (t := 51) ?hr ?_; (case hd => rfl); (case hg => rfl); (case hr => first | (go_simp; done) | (go_simp; rfl)); intro gb301 hg w12 hbox hb; have n0_ := Aside0.mk (below_step (hB_) hb); have n1_ := Aside0.mk (hbox); have n2_ := Aside0.mk ((by rw [hg]; exact (below_size (hB_)) : w.heap.size ≤ gb301)); have n3_ := Aside0.mk ((by rw [hg]; exact (below_size (hB_)) : w.heap.size ≤ gb301)); replace HB := n0_; have BK301 := n1_; have GW301 := n2_; have GE301 := n3_; clear n0_ n1_ n2_ n3_; clear hb hbox hg; have hcz13_0 : w12.cell? ⟨gb301, 0, none⟩ = some (.int .i64 a2_0) := (blk_cell BK301.out 0).trans rfl; have hcz13_1 : w12.cell? ⟨gb301, 1, none⟩ = some (.slice A2_1 l2_1.length c2_1) := (blk_cell BK301.out 1).trans rfl; have hcz13_2 : w12.cell? ⟨gb301, 2, none⟩ = some (.slice A2_2 l2_2.length c2_2) := (blk_cell BK301.out 2).trans rfl; have hcz13_3 : w12.cell? ⟨gb301, 3, none⟩ = some (.string a2_3) := (blk_cell BK301.out 3).trans rfl; have hcz13_4 : w12.cell? ⟨gb301, 4, none⟩ = some (.int .i64 a2_4) := (blk_cell BK301.out 4).trans rfl; have hcz13_5 : w12.cell? ⟨gb301, 5, none⟩ = some (.slice A2_5 l2_5.length c2_5) := (blk_cell BK301.out 5).trans rfl; have hcz13_6 : w12.cell? ⟨gb301, 6, none⟩ = some (.slice A2_6 l2_6.length c2_6) := (blk_cell BK301.out 6).trans rfl; have hfz13_0 := blk_frozen BK301.out 0; have hfz13_1 := blk_frozen BK301.out 1; have hfz13_2 := blk_frozen BK301.out 2; have hfz13_3 := blk_frozen BK301.out 3; have hfz13_4 := blk_frozen BK301.out 4; have hfz13_5 := blk_frozen BK301.out 5; have hfz13_6 := blk_frozen BK301.out 6) | ((with_reducible refine gate_callee (f := 29) rfl ?_); refine goesL_ (some 12) rfl rfl Tryd.func29 (by kernel_rfl) rfl #[.string a0, .string a2_3, .agg #[.int .i64 a2_0, .slice A2_1 l2_1.length c2_1, .slice A2_2 l2_2.length c2_2]] rfl aM_ ?_; (with_reducible refine (spec_CheckSig.calls k a0 a2_3 a2_0 _ _ l2_1 _ _ l2_2 false _ ?side1 ?side2 ?side3 ?side4 A4.out).mono ?_); (case side1 => exact cR_ (Kd.C_below HR2_1.out HB.out)); (case side2 => exact HC2_1.out); (case side3 => exact cR_ (Kd.C_below HR2_2.out HB.out)); (case side4 => exact HC2_2.out); rintro e w14 ⟨rfl, hb⟩; refine ⟨_, rfl, ?_⟩; have n0_ := Aside0.mk (blk_below (g := gb301) (o := .cells #[.int .i64 a2_0, .slice A2_1 l2_1.length c2_1, .slice A2_2 l2_2.length c2_2, .string a2_3, .int .i64 a2_4, .slice A2_5 l2_5.length c2_5, .slice A2_6 l2_6.length c2_6] 51 (0, 0)) (rK_ BK301.out) hb); have n1_ := Aside0.mk (below_step (hS_ GE301.out) hb); replace BK301 := n0_; replace HB := n1_; clear n0_ n1_; (try clear hb)))
  go_ret
  exact ⟨by first | rfl | (simp [errW_none, errW_some] <;> rfl) | (simp [*, errW_none, errW_some] <;> rfl), hS_ GE301.out⟩

/-! ### spec_OncePublic: function 25 -/
def spec_OncePublic.l0 : Nat → List ByteArray → Int → ByteArray → Int → Option (ByteArray)
 | 0, _, _, _, _ => none
 | k + 1, x0, x1, x5, x6 => if x6 < 10 then (if 0 ≤ x6 then (if x6 < (x0.length : Int) then ((spec_ChainOf.f k (rdOf ByteArray.empty x0 x6) x1 x6 0 15).bind fun t558 => (if x5.size + t558.size ≤ 9223372036854775807 then (spec_OncePublic.l0 k x0 x1 (x5 ++ t558) (wrap64 (x6 + 1))) else (none))) else (none)) else (none)) else ((spec_Chop.f k x5).bind fun t559 => (some t559))
def spec_OncePublic.f (k : Nat) (l0 : List ByteArray) (a1 : Int) : Option (ByteArray) := if (l0.length : Int) = 10 then (spec_OncePublic.l0 k l0 a1 (⟨#[]⟩ : ByteArray) 0) else (some (⟨#[]⟩ : ByteArray))
theorem spec_OncePublic.mono_l : ∀ k, (∀ y0 y1 y2 y3, LeO (spec_OncePublic.l0 k y0 y1 y2 y3) (spec_OncePublic.l0 (k + 1) y0 y1 y2 y3))
 | 0 => fun _ _ _ _ r h => by simp [spec_OncePublic.l0] at h
 | k + 1 => by
  have ih0 := spec_OncePublic.mono_l k
  ·intro y0 y1 y2 y3
   unfold spec_OncePublic.l0
   repeat' first
   | (with_reducible exact ih0 _ _ _ _)
   | (with_reducible exact spec_ChainOf.mono _ _ _ _ _ _)
   | (with_reducible exact spec_Chop.mono _ _)
   | (with_reducible exact LeO.refl _)
   | (with_reducible exact LeO.none _)
   | (with_reducible refine LeO.ite ?_ ?_)
   | (with_reducible refine LeO.bind ?_ (fun _ => ?_))
   | exact ih0 _ _ _ _
   | exact spec_ChainOf.mono _ _ _ _ _ _
   | exact spec_Chop.mono _ _
   | exact LeO.none _
   | refine LeO.ite ?_ ?_
   | refine LeO.bind ?_ (fun _ => ?_)
theorem spec_OncePublic.mono : ∀ a0 a1 k, LeO (spec_OncePublic.f k a0 a1) (spec_OncePublic.f (k + 1) a0 a1) := by
 intro a0 a1 k
 have ih0 := spec_OncePublic.mono_l k
 unfold spec_OncePublic.f
 repeat' first
   | (with_reducible exact ih0 _ _ _ _)
   | (with_reducible exact spec_ChainOf.mono _ _ _ _ _ _)
   | (with_reducible exact spec_Chop.mono _ _)
   | (with_reducible exact LeO.refl _)
   | (with_reducible exact LeO.none _)
   | (with_reducible refine LeO.ite ?_ ?_)
   | (with_reducible refine LeO.bind ?_ (fun _ => ?_))
   | exact ih0 _ _ _ _
   | exact spec_ChainOf.mono _ _ _ _ _ _
   | exact spec_Chop.mono _ _
   | exact LeO.none _
   | refine LeO.ite ?_ ?_
   | refine LeO.bind ?_ (fun _ => ?_)
theorem spec_OncePublic.calls (k : Nat) (A0 : Option Addr) (c0 : Nat) (l0 : List ByteArray) (a1 : Int) (r : ByteArray) (w : World) (hr0 : Kd.C Kd.string w A0 l0.length l0) (hc0 : l0.length ≤ c0) (h : spec_OncePublic.f k l0 a1 = some r) :
  Calls Tryd.prog 25 #[.slice A0 l0.length c0, .int .i64 a1] w fun e w' => e = .returned (.string r) ∧ Below w.heap.size w w' := by
 have HR0 := Aside0.mk hr0
 have HC0 := Aside0.mk hc0
 clear hr0 hc0
 have HB := Aside0.mk (Below.refl w.heap.size w)
 have H : (if (l0.length : Int) = 10 then (spec_OncePublic.l0 k l0 a1 (⟨#[]⟩ : ByteArray) 0) else (some (⟨#[]⟩ : ByteArray))) = some r := h
 clear h
 by_cases c3 : (l0.length : Int) = 10
 rotate_left
 ·rw [if_neg c3] at H
  have c3b0 : ((l0.length : Int) == 10) = false := beq_eq_false_iff_ne.mpr c3
  have c3b1 : ((l0.length : Int) != 10) = true := bne_iff_ne.mpr c3
  obtain rfl := Option.some.inj H
  go_enter Tryd.func25, Tryd.ntmps25
  go_wp2
  go_ret
  exact ⟨by first | rfl | (simp [errW_none, errW_some] <;> rfl) | (simp [*, errW_none, errW_some] <;> rfl), hB_⟩
 rw [if_pos c3] at H
 have c3b0 : ((l0.length : Int) == 10) = true := beq_iff_eq.mpr c3
 have c3b1 : ((l0.length : Int) != 10) = false := bne_eq_false_iff_eq.mpr c3
 clear c3
 have H' := Aside0.mk H
 clear H
 go_enter Tryd.func25, Tryd.ntmps25
 go_wp2
 go_loopg [5, 6] k (fun kq v5 v6 w' => ∃ (x5_1 : ByteArray) (x6_1 : Int), v5 = .string x5_1 ∧ v6 = .int .i64 x6_1 ∧ Aside0 (spec_OncePublic.l0 kq l0 a1 x5_1 x6_1 = some r) ∧ Aside0 (kq ≤ k) ∧ Aside0 (Below w.heap.size w w'))
 case atStart => exact ⟨((⟨#[]⟩ : ByteArray)), (0), (by first | rfl | (simp; done) | (simp [*]; done)), (by first | rfl | (simp; done) | (simp [*]; done)), H', ⟨Nat.le_refl _⟩, ⟨hB_⟩⟩
 case round =>
  clear H'
  try clear c2
  try clear p2
  try clear c3
  try clear c3b0
  try clear c3b1
  obtain ⟨x5_1, x6_1, rfl, rfl, HA, HK1, HB⟩ := hrel
  cases gk with
  | zero => exact absurd HA.out (by simp [spec_OncePublic.l0])
  | succ k1 =>
   have H := HA.out
   clear HA
   simp only [spec_OncePublic.l0] at H
   by_cases c4 : x6_1 < 10
   ·rw [if_pos c4] at H
    have c4b0 := decide_eq_true c4
    clear c4
    obtain ⟨c5, H⟩ := iN_ H
    have c5b0 := decide_eq_true c5
    clear c5
    obtain ⟨c6, H⟩ := iN_ H
    have c6b0 := decide_eq_true c6
    clear c6
    replace H := Option.bind_eq_some_iff.mp H
    obtain ⟨t558, A70, H⟩ := H
    try dsimp -simprocs only at H
    have A7 := Aside0.mk A70
    clear A70
    obtain ⟨c8, H⟩ := iN_ H
    have c8b0 := eq_true c8
    have c8b1 := decide_eq_true c8
    try have c8b2 : (9223372036854775807 < x5_1.size + t558.size) = False := eq_false (Nat.not_lt.2 c8)
    have H' := Aside0.mk H
    clear H
    have p557 : 0 ≤ (x6_1 : Int) := of_decide_eq_true (by first | (with_reducible assumption) | assumption)
    have q557 : x6_1 < (l0.length : Int) := of_decide_eq_true (by first | (with_reducible assumption) | assumption)
    obtain ⟨ad557, e557, hx557_0⟩ := Kd.at_string HR0.out x6_1 p557 q557
    cases e557
    replace hx557_0 := (HB.out.cell (World.block_lt_of_cell? w _ hx557_0)).trans hx557_0
    replace p557 := eq_true p557
    replace q557 := eq_true q557
    go_wp2_with (first | ((with_reducible refine gate_callee (f := 71) rfl ?_); refine goesL_ (some 21) rfl rfl Tryd.func71 (by kernel_rfl) rfl #[.string (rdOf ByteArray.empty l0 x6_1), .int .i64 a1, .int .i64 x6_1, .int .i64 0, .int .i64 15] rfl aM_ ?_; (with_reducible refine (spec_ChainOf.calls k1 (rdOf ByteArray.empty l0 x6_1) a1 x6_1 0 15 t558 _ A7.out).mono ?_); rintro e w9 ⟨rfl, hb⟩; refine ⟨_, rfl, ?_⟩; have n0_ := Aside0.mk (below_step (hB_) hb); replace HB := n0_; clear n0_; (try clear hb)))
    go_roundg k1
    case measure => have := HK1.out; omega
    case rel => exact ⟨(x5_1 ++ t558), (wrap64 (x6_1 + 1)), (by first | rfl | (simp; done) | (simp [*]; done)), (by first | rfl | (simp; done) | (simp [*]; done)), H', ⟨by have := HK1.out; omega⟩, ⟨hB_⟩⟩
   rw [if_neg c4] at H
   have c4b0 := decide_eq_false c4
   clear c4
   replace H := Option.bind_eq_some_iff.mp H
   obtain ⟨t559, A100, H⟩ := H
   try dsimp -simprocs only at H
   have A10 := Aside0.mk A100
   clear A100
   obtain rfl := Option.some.inj H
   go_wp2_with (first | ((with_reducible refine gate_callee (f := 72) rfl ?_); refine goesL_ (some 24) rfl rfl Tryd.func72 (by kernel_rfl) rfl #[.string x5_1] rfl aM_ ?_; (with_reducible refine (spec_Chop.calls k1 x5_1 t559 _ A10.out).mono ?_); rintro e w11 ⟨rfl, hb⟩; refine ⟨_, rfl, ?_⟩; have n0_ := Aside0.mk (below_step (hB_) hb); replace HB := n0_; clear n0_; (try clear hb)))
   go_ret
   exact ⟨by first | rfl | (simp [errW_none, errW_some] <;> rfl) | (simp [*, errW_none, errW_some] <;> rfl), hB_⟩

/-! ### spec_OnceKey: function 27 -/
def spec_OnceKey.l0 : Nat → ByteArray → Int → List ByteArray → Int → Option (List ByteArray)
 | 0, _, _, _, _ => none
 | k + 1, x0, x1, x5, x6 => if x6 < 10 then ((spec_l06Byte.f x1).bind fun t563 => (if x0.size + t563.size ≤ 9223372036854775807 then ((spec_l06Byte.f x6).bind fun t564 => (if (x0 ++ t563).size + t564.size ≤ 9223372036854775807 then (if ((x0 ++ t563) ++ t564).size + 1 ≤ 9223372036854775807 then ((spec_Chop.f k (((x0 ++ t563) ++ t564) ++ (⟨#[111]⟩ : ByteArray))).bind fun t565 => (if x5.length < 8796093022208 then (spec_OnceKey.l0 k x0 x1 (x5 ++ [t565]) (wrap64 (x6 + 1))) else (none))) else (none)) else (none))) else (none))) else (some x5)
def spec_OnceKey.f (k : Nat) (a0 : ByteArray) (a1 : Int) : Option (List ByteArray) := spec_OnceKey.l0 k a0 a1 (([] : List ByteArray)) 0
theorem spec_OnceKey.mono_l : ∀ k, (∀ y0 y1 y2 y3, LeO (spec_OnceKey.l0 k y0 y1 y2 y3) (spec_OnceKey.l0 (k + 1) y0 y1 y2 y3))
 | 0 => fun _ _ _ _ r h => by simp [spec_OnceKey.l0] at h
 | k + 1 => by
  have ih0 := spec_OnceKey.mono_l k
  ·intro y0 y1 y2 y3
   unfold spec_OnceKey.l0
   repeat' first
   | (with_reducible exact ih0 _ _ _ _)
   | (with_reducible exact spec_Chop.mono _ _)
   | (with_reducible exact LeO.refl _)
   | (with_reducible exact LeO.none _)
   | (with_reducible refine LeO.ite ?_ ?_)
   | (with_reducible refine LeO.bind ?_ (fun _ => ?_))
   | exact ih0 _ _ _ _
   | exact spec_Chop.mono _ _
   | exact LeO.none _
   | refine LeO.ite ?_ ?_
   | refine LeO.bind ?_ (fun _ => ?_)
theorem spec_OnceKey.mono : ∀ a0 a1 k, LeO (spec_OnceKey.f k a0 a1) (spec_OnceKey.f (k + 1) a0 a1) := by
 intro a0 a1 k
 have ih0 := spec_OnceKey.mono_l k
 unfold spec_OnceKey.f
 repeat' first
   | (with_reducible exact ih0 _ _ _ _)
   | (with_reducible exact spec_Chop.mono _ _)
   | (with_reducible exact LeO.refl _)
   | (with_reducible exact LeO.none _)
   | (with_reducible refine LeO.ite ?_ ?_)
   | (with_reducible refine LeO.bind ?_ (fun _ => ?_))
   | exact ih0 _ _ _ _
   | exact spec_Chop.mono _ _
   | exact LeO.none _
   | refine LeO.ite ?_ ?_
   | refine LeO.bind ?_ (fun _ => ?_)
theorem spec_OnceKey.calls (k : Nat) (a0 : ByteArray) (a1 : Int) (r : List ByteArray) (w : World) (h : spec_OnceKey.f k a0 a1 = some r) :
  Calls Tryd.prog 27 #[.string a0, .int .i64 a1] w fun e w' => ∃ v0_ : Value, e = .returned (v0_) ∧ Kd.R Kd.string 9 w' w.heap.size (fun _ => True) v0_ r ∧ Below w.heap.size w w' := by
 have HB := Aside0.mk (Below.refl w.heap.size w)
 have H : (spec_OnceKey.l0 k a0 a1 (([] : List ByteArray)) 0) = some r := h
 clear h
 obtain ⟨y560, hy560⟩ : ∃ y_ : List ByteArray, y_ = (([] : List ByteArray)) := ⟨_, rfl⟩
 replace H : (spec_OnceKey.l0 k a0 a1 y560 0) = some r := by first | (rw [hy560]; with_reducible exact H) | (have H2_ := (Option.bind_some _ _).symm.trans H; rw [hy560]; with_reducible exact H2_) | (have H2_ := (Option.bind_some _ _).symm.trans H; with_reducible exact H2_) | with_reducible exact H | (rw [hy560]; exact H) | exact H
 have Ny560 := Aside0.mk hy560
 clear hy560
 have H' := Aside0.mk H
 clear H
 go_enter Tryd.func27, Tryd.ntmps27
 go_wp2_with (first | ((with_reducible refine gate_dst (N := 7) rfl ?_); refine Kd.R_lit Kd.string _ 9 ?hg (N := 7) ?hd (xs := ([] : List ByteArray)) (inner := []) (ok := fun _ => True) (okp := fun _ => True) ?hr ?hp (fun _ hk => hk) trivial (Below.refl _ _) (Nat.le_refl _) (by simp) ?_; (case hd => rfl); (case hg => rfl); (case hr => first | (go_simp; done) | (go_simp; rfl)); (case hp => exact (Reps.none _ _)); intro v561 w3 ho4 hb hg_ hnew_; clear hg_ hnew_; (first | rw [← Ny560.out] at ho4 | (simp only [Int.reduceToNat] at ho4; rw [← Ny560.out] at ho4)); have n0_ := Aside0.mk (Kd.R_lower ho4 (below_size (hB_))); have n1_ := Aside0.mk (below_step (hB_) hb); have HO562 := n0_; replace HB := n1_; clear n0_ n1_; clear hb ho4))
 go_loopg [5, 6] k (fun kq v5 v6 w' => ∃ (x5_1 : List ByteArray) (x6_1 : Int), v6 = .int .i64 x6_1 ∧ Aside0 (spec_OnceKey.l0 kq a0 a1 x5_1 x6_1 = some r) ∧ Aside0 (kq ≤ k) ∧ Aside0 (Kd.R Kd.string 9 w' w.heap.size (fun _ => True) v5 x5_1) ∧ Aside0 (Below w.heap.size w w'))
 case atStart => exact ⟨(y560), (0), (by first | rfl | (simp; done) | (simp [*]; done)), H', ⟨Nat.le_refl _⟩, ⟨rR_ HO562.out⟩, ⟨hB_⟩⟩
 case round =>
  clear H'
  try clear c2
  try clear p2
  obtain ⟨x5_1, x6_1, rfl, HA, HK1, HO_5, HB⟩ := hrel
  cases gk with
  | zero => exact absurd HA.out (by simp [spec_OnceKey.l0])
  | succ k1 =>
   have H := HA.out
   clear HA
   simp only [spec_OnceKey.l0] at H
   by_cases c5 : x6_1 < 10
   rotate_left
   ·rw [if_neg c5] at H
    have c5b0 := decide_eq_false c5
    clear c5
    obtain rfl := Option.some.inj H
    go_wp2
    go_ret
    exact ⟨_, by first | rfl | (simp [errW_none, errW_some] <;> rfl) | (simp [*, errW_none, errW_some] <;> rfl), rR_ HO_5.out, hB_⟩
   rw [if_pos c5] at H
   have c5b0 := decide_eq_true c5
   clear c5
   replace H := Option.bind_eq_some_iff.mp H
   obtain ⟨t563, A60, H⟩ := H
   try dsimp -simprocs only at H
   have A6 := Aside0.mk A60
   clear A60
   obtain ⟨c7, H⟩ := iN_ H
   have c7b0 := eq_true c7
   have c7b1 := decide_eq_true c7
   try have c7b2 : (9223372036854775807 < a0.size + t563.size) = False := eq_false (Nat.not_lt.2 c7)
   replace H := Option.bind_eq_some_iff.mp H
   obtain ⟨t564, A80, H⟩ := H
   try dsimp -simprocs only at H
   have A8 := Aside0.mk A80
   clear A80
   obtain ⟨c9, H⟩ := iN_ H
   have c9b0 := eq_true c9
   have c9b1 := decide_eq_true c9
   try have c9b2 : (9223372036854775807 < (a0 ++ t563).size + t564.size) = False := eq_false (Nat.not_lt.2 c9)
   try (have c9b9 : (9223372036854775807 < (a0 ++ t563).size + t564.size) = False := c9b2; simp only [ByteArray.size_append] at c9b9)
   obtain ⟨c10, H⟩ := iN_ H
   have c10b0 := eq_true c10
   have c10b1 := decide_eq_true c10
   try have c10b2 : (9223372036854775807 < ((a0 ++ t563) ++ t564).size + 1) = False := eq_false (Nat.not_lt.2 c10)
   try (have c10b9 : (9223372036854775807 < ((a0 ++ t563) ++ t564).size + 1) = False := c10b2; simp only [ByteArray.size_append] at c10b9)
   replace H := Option.bind_eq_some_iff.mp H
   obtain ⟨t565, A110, H⟩ := H
   try dsimp -simprocs only at H
   have A11 := Aside0.mk A110
   clear A110
   obtain ⟨c12, H⟩ := iN_ H
   have LMc12 := Aside0.mk c12
   clear c12
   obtain ⟨y566, hy566⟩ : ∃ y_ : List ByteArray, y_ = (x5_1 ++ [t565]) := ⟨_, rfl⟩
   replace H : (spec_OnceKey.l0 k1 a0 a1 y566 (wrap64 (x6_1 + 1))) = some r := by first | (rw [hy566]; with_reducible exact H) | (have H2_ := (Option.bind_some _ _).symm.trans H; rw [hy566]; with_reducible exact H2_) | (have H2_ := (Option.bind_some _ _).symm.trans H; with_reducible exact H2_) | with_reducible exact H | (rw [hy566]; exact H) | exact H
   have Ny566 := Aside0.mk hy566
   clear hy566
   have H' := Aside0.mk H
   clear H
   go_wp2_with (first | ((with_reducible refine gate_callee (f := 65) rfl ?_); refine goesL_ (some 15) rfl rfl Tryd.func65 (by kernel_rfl) rfl #[.int .i64 a1] rfl aM_ ?_; (with_reducible refine (spec_l06Byte.calls a1 t563 _ A6.out).mono ?_); rintro e w13 ⟨rfl, hb⟩; refine ⟨_, rfl, ?_⟩; have n0_ := Aside0.mk (Kd.R_below (rR_ HO_5.out) hb); have n1_ := Aside0.mk (below_step (hB_) hb); replace HO_5 := n0_; replace HB := n1_; clear n0_ n1_; (try clear hb)) | ((with_reducible refine gate_callee (f := 65) rfl ?_); refine goesL_ (some 18) rfl rfl Tryd.func65 (by kernel_rfl) rfl #[.int .i64 x6_1] rfl aM_ ?_; (with_reducible refine (spec_l06Byte.calls x6_1 t564 _ A8.out).mono ?_); rintro e w14 ⟨rfl, hb⟩; refine ⟨_, rfl, ?_⟩; have n0_ := Aside0.mk (Kd.R_below (rR_ HO_5.out) hb); have n1_ := Aside0.mk (below_step (hB_) hb); replace HO_5 := n0_; replace HB := n1_; clear n0_ n1_; (try clear hb)) | ((with_reducible refine gate_callee (f := 72) rfl ?_); refine goesL_ (some 21) rfl rfl Tryd.func72 (by kernel_rfl) rfl #[.string (((a0 ++ t563) ++ t564) ++ (⟨#[111]⟩ : ByteArray))] rfl aM_ ?_; (with_reducible refine (spec_Chop.calls k1 (((a0 ++ t563) ++ t564) ++ (⟨#[111]⟩ : ByteArray)) t565 _ A11.out).mono ?_); rintro e w15 ⟨rfl, hb⟩; refine ⟨_, rfl, ?_⟩; have n0_ := Aside0.mk (Kd.R_below (rR_ HO_5.out) hb); have n1_ := Aside0.mk (below_step (hB_) hb); replace HO_5 := n0_; replace HB := n1_; clear n0_ n1_; (try clear hb)) | ((with_reducible refine gate_builtin (b := .append) (xs := #[.tmp 12, .tmp 22]) rfl ?_); at_builtin; refine Kd.R_append Kd.string (w0 := w) w.heap.size rfl (.tmp 12) (.tmp 22) 25 9 (.string ⟨#[]⟩) 16 rfl Tryd.underlying25 info9 rfl (by decide) (by omega) u5 x5_1 t565 [.string t565] (fun _ => True) (fun _ => False) rfl rfl ?aP (fun _ hk => hk.elim) ?aF ?aO ?aB ?aS ?aL ?_; (case aP => exact rfl); (case aB => exact (hB_)); (case aF => exact (fun _ _ => trivial)); (case aO => exact (rR_ HO_5.out)); (case aS => exact (below_size (hB_))); (case aL => have := LMc12.out; omega); intro v567 w16 ho hb hg hat; rw [← Ny566.out] at ho; have n0_ := Aside0.mk (hb); have n1_ := Aside0.mk (ho); clear HO_5; replace HB := n0_; have HO568 := n1_; clear n0_ n1_; clear ho hb hg hat))
   go_roundg k1
   case measure => have := HK1.out; omega
   case rel => exact ⟨(y566), (wrap64 (x6_1 + 1)), (by first | rfl | (simp; done) | (simp [*]; done)), H', ⟨by have := HK1.out; omega⟩, ⟨rR_ HO568.out⟩, ⟨hB_⟩⟩

/-! ### spec_l16Leaves: function 89 -/
def spec_l16Leaves.l0 : Nat → ByteArray → List ByteArray → Int → Option (List ByteArray)
 | 0, _, _, _ => none
 | k + 1, x0, x3, x4 => if x4 < 4 then ((spec_OnceKey.f k x0 x4).bind fun t572 => ((spec_OncePublic.f k t572 x4).bind fun t575 => (if x3.length < 8796093022208 then (spec_l16Leaves.l0 k x0 (x3 ++ [t575]) (wrap64 (x4 + 1))) else (none)))) else (some x3)
def spec_l16Leaves.f (k : Nat) (a0 : ByteArray) : Option (List ByteArray) := spec_l16Leaves.l0 k a0 (([] : List ByteArray)) 0
theorem spec_l16Leaves.mono_l : ∀ k, (∀ y0 y1 y2, LeO (spec_l16Leaves.l0 k y0 y1 y2) (spec_l16Leaves.l0 (k + 1) y0 y1 y2))
 | 0 => fun _ _ _ r h => by simp [spec_l16Leaves.l0] at h
 | k + 1 => by
  have ih0 := spec_l16Leaves.mono_l k
  ·intro y0 y1 y2
   unfold spec_l16Leaves.l0
   repeat' first
   | (with_reducible exact ih0 _ _ _)
   | (with_reducible exact spec_OnceKey.mono _ _ _)
   | (with_reducible exact spec_OncePublic.mono _ _ _)
   | (with_reducible exact LeO.refl _)
   | (with_reducible exact LeO.none _)
   | (with_reducible refine LeO.ite ?_ ?_)
   | (with_reducible refine LeO.bind ?_ (fun _ => ?_))
   | exact ih0 _ _ _
   | exact spec_OnceKey.mono _ _ _
   | exact spec_OncePublic.mono _ _ _
   | exact LeO.none _
   | refine LeO.ite ?_ ?_
   | refine LeO.bind ?_ (fun _ => ?_)
theorem spec_l16Leaves.mono : ∀ a0 k, LeO (spec_l16Leaves.f k a0) (spec_l16Leaves.f (k + 1) a0) := by
 intro a0 k
 have ih0 := spec_l16Leaves.mono_l k
 unfold spec_l16Leaves.f
 repeat' first
   | (with_reducible exact ih0 _ _ _)
   | (with_reducible exact spec_OnceKey.mono _ _ _)
   | (with_reducible exact spec_OncePublic.mono _ _ _)
   | (with_reducible exact LeO.refl _)
   | (with_reducible exact LeO.none _)
   | (with_reducible refine LeO.ite ?_ ?_)
   | (with_reducible refine LeO.bind ?_ (fun _ => ?_))
   | exact ih0 _ _ _
   | exact spec_OnceKey.mono _ _ _
   | exact spec_OncePublic.mono _ _ _
   | exact LeO.none _
   | refine LeO.ite ?_ ?_
   | refine LeO.bind ?_ (fun _ => ?_)
theorem spec_l16Leaves.calls (k : Nat) (a0 : ByteArray) (r : List ByteArray) (w : World) (h : spec_l16Leaves.f k a0 = some r) :
  Calls Tryd.prog 89 #[.string a0] w fun e w' => ∃ v0_ : Value, e = .returned (v0_) ∧ Kd.R Kd.string 9 w' w.heap.size (fun _ => True) v0_ r ∧ Below w.heap.size w w' := by
 have HB := Aside0.mk (Below.refl w.heap.size w)
 have H : (spec_l16Leaves.l0 k a0 (([] : List ByteArray)) 0) = some r := h
 clear h
 obtain ⟨y569, hy569⟩ : ∃ y_ : List ByteArray, y_ = (([] : List ByteArray)) := ⟨_, rfl⟩
 replace H : (spec_l16Leaves.l0 k a0 y569 0) = some r := by first | (rw [hy569]; with_reducible exact H) | (have H2_ := (Option.bind_some _ _).symm.trans H; rw [hy569]; with_reducible exact H2_) | (have H2_ := (Option.bind_some _ _).symm.trans H; with_reducible exact H2_) | with_reducible exact H | (rw [hy569]; exact H) | exact H
 have Ny569 := Aside0.mk hy569
 clear hy569
 have H' := Aside0.mk H
 clear H
 go_enter Tryd.func89, Tryd.ntmps89
 go_wp2_with (first | ((with_reducible refine gate_dst (N := 5) rfl ?_); refine Kd.R_lit Kd.string _ 9 ?hg (N := 5) ?hd (xs := ([] : List ByteArray)) (inner := []) (ok := fun _ => True) (okp := fun _ => True) ?hr ?hp (fun _ hk => hk) trivial (Below.refl _ _) (Nat.le_refl _) (by simp) ?_; (case hd => rfl); (case hg => rfl); (case hr => first | (go_simp; done) | (go_simp; rfl)); (case hp => exact (Reps.none _ _)); intro v570 w2 ho3 hb hg_ hnew_; clear hg_ hnew_; (first | rw [← Ny569.out] at ho3 | (simp only [Int.reduceToNat] at ho3; rw [← Ny569.out] at ho3)); have n0_ := Aside0.mk (Kd.R_lower ho3 (below_size (hB_))); have n1_ := Aside0.mk (below_step (hB_) hb); have HO571 := n0_; replace HB := n1_; clear n0_ n1_; clear hb ho3))
 go_loopg [3, 4] k (fun kq v3 v4 w' => ∃ (x3_1 : List ByteArray) (x4_1 : Int), v4 = .int .i64 x4_1 ∧ Aside0 (spec_l16Leaves.l0 kq a0 x3_1 x4_1 = some r) ∧ Aside0 (kq ≤ k) ∧ Aside0 (Kd.R Kd.string 9 w' w.heap.size (fun _ => True) v3 x3_1) ∧ Aside0 (Below w.heap.size w w'))
 case atStart => exact ⟨(y569), (0), (by first | rfl | (simp; done) | (simp [*]; done)), H', ⟨Nat.le_refl _⟩, ⟨rR_ HO571.out⟩, ⟨hB_⟩⟩
 case round =>
  clear H'
  try clear p2
  obtain ⟨x3_1, x4_1, rfl, HA, HK1, HO_3, HB⟩ := hrel
  cases gk with
  | zero => exact absurd HA.out (by simp [spec_l16Leaves.l0])
  | succ k1 =>
   have H := HA.out
   clear HA
   simp only [spec_l16Leaves.l0] at H
   by_cases c4 : x4_1 < 4
   ·rw [if_pos c4] at H
    have c4b0 := decide_eq_true c4
    clear c4
    replace H := Option.bind_eq_some_iff.mp H
    obtain ⟨t572, A50, H⟩ := H
    try dsimp -simprocs only at H
    have A5 := Aside0.mk A50
    clear A50
    replace H := Option.bind_eq_some_iff.mp H
    obtain ⟨t575, A60, H⟩ := H
    try dsimp -simprocs only at H
    have A6 := Aside0.mk A60
    clear A60
    obtain ⟨c7, H⟩ := iN_ H
    have LMc7 := Aside0.mk c7
    clear c7
    obtain ⟨y576, hy576⟩ : ∃ y_ : List ByteArray, y_ = (x3_1 ++ [t575]) := ⟨_, rfl⟩
    replace H : (spec_l16Leaves.l0 k1 a0 y576 (wrap64 (x4_1 + 1))) = some r := by first | (rw [hy576]; with_reducible exact H) | (have H2_ := (Option.bind_some _ _).symm.trans H; rw [hy576]; with_reducible exact H2_) | (have H2_ := (Option.bind_some _ _).symm.trans H; with_reducible exact H2_) | with_reducible exact H | (rw [hy576]; exact H) | exact H
    have Ny576 := Aside0.mk hy576
    clear hy576
    have H' := Aside0.mk H
    clear H
    go_wp2_with (first | ((with_reducible refine gate_callee (f := 27) rfl ?_); refine goesL_ (some 13) rfl rfl Tryd.func27 (by kernel_rfl) rfl #[.string a0, .int .i64 x4_1] rfl aM_ ?_; (with_reducible refine (spec_OnceKey.calls k1 a0 x4_1 t572 _ A5.out).mono ?_); rintro e w8 ⟨v573, rfl, ho0, hb⟩; refine ⟨_, rfl, ?_⟩; have n0_ := Aside0.mk (Kd.R_elder' (rR_ HO_3.out) (Kd.R_base ho0) hb); have n1_ := Aside0.mk (Kd.R_lower (Kd.R_new' ho0 (Kd.R_lt (rR_ HO_3.out))) (below_size (hB_))); have n2_ := Aside0.mk (below_step (hB_) hb); replace HO_3 := n0_; have HO574 := n1_; replace HB := n2_; clear n0_ n1_ n2_; (try clear hb); (try clear ho0); obtain ⟨Ao9, co9, eo9⟩ := Kd.R_slice HO574.out; subst eo9) | ((with_reducible refine gate_callee (f := 25) rfl ?_); refine goesL_ (some 15) rfl rfl Tryd.func25 (by kernel_rfl) rfl #[.slice Ao9 t572.length co9, .int .i64 x4_1] rfl aM_ ?_; (with_reducible refine (spec_OncePublic.calls k1 _ _ t572 x4_1 t575 _ ?side1 ?side2 A6.out).mono ?_); (case side1 => exact cR_ (Kd.R_reads' HO574.out).2.2); (case side2 => exact (Kd.R_reads' HO574.out).2.1); rintro e w10 ⟨rfl, hb⟩; refine ⟨_, rfl, ?_⟩; have n0_ := Aside0.mk (Kd.R_below (rR_ HO_3.out) hb); have n1_ := Aside0.mk (Kd.R_below (rR_ HO574.out) hb); have n2_ := Aside0.mk (below_step (hB_) hb); replace HO_3 := n0_; replace HO574 := n1_; replace HB := n2_; clear n0_ n1_ n2_; (try clear hb)) | ((with_reducible refine gate_builtin (b := .append) (xs := #[.tmp 10, .tmp 16]) rfl ?_); at_builtin; refine Kd.R_append Kd.string (w0 := w) w.heap.size rfl (.tmp 10) (.tmp 16) 25 9 (.string ⟨#[]⟩) 16 rfl Tryd.underlying25 info9 rfl (by decide) (by omega) u3 x3_1 t575 [.string t575] (fun k_ => some k_ ≠ (.slice Ao9 t572.length co9 : Value).ownBlock) (fun _ => False) rfl rfl ?aP (fun _ hk => hk.elim) ?aF ?aO ?aB ?aS ?aL ?_; (case aP => exact rfl); (case aB => exact (hB_)); (case aF => exact (fun k_ hk => Kd.fresh' (Kd.R_lt (rR_ HO574.out)) k_ hk)); (case aO => exact (by refine kR_ ?_; exact Kd.R_mono HO_3.out (fun _ hk => hk.2))); (case aS => exact (below_size (hB_))); (case aL => have := LMc7.out; omega); intro v577 w11 ho hb hg hat; rw [← Ny576.out] at ho; have n0_ := Aside0.mk (Kd.R_after (ok := (fun _ => True)) (rR_ HO574.out) hg hat); have n1_ := Aside0.mk (hb); have n2_ := Aside0.mk (ho); clear HO_3; replace HO574 := n0_; replace HB := n1_; have HO578 := n2_; clear n0_ n1_ n2_; clear ho hb hg hat))
    go_roundg k1
    case measure => have := HK1.out; omega
    case rel => exact ⟨(y576), (wrap64 (x4_1 + 1)), (by first | rfl | (simp; done) | (simp [*]; done)), H', ⟨by have := HK1.out; omega⟩, ⟨by refine kR_ ?_; exact Kd.R_mono HO578.out (fun _ hk => trivial)⟩, ⟨hB_⟩⟩
   rw [if_neg c4] at H
   have c4b0 := decide_eq_false c4
   clear c4
   obtain rfl := Option.some.inj H
   go_wp2
   go_ret
   exact ⟨_, by first | rfl | (simp [errW_none, errW_some] <;> rfl) | (simp [*, errW_none, errW_some] <;> rfl), rR_ HO_3.out, hB_⟩

/-! ### spec_LevelUp: function 116 -/
def spec_LevelUp.l0 : Nat → Int → List ByteArray → List ByteArray → Int → Option (List ByteArray)
 | 0, _, _, _, _ => none
 | k + 1, x0, x1, x5, x6 => if (wrap64 ((wrap64 (2 * x6)) + 1)) < (x1.length : Int) then (if 0 ≤ (wrap64 (2 * x6)) then (if (wrap64 (2 * x6)) < (x1.length : Int) then (if 0 ≤ (wrap64 ((wrap64 (2 * x6)) + 1)) then ((spec_Node.f k x0 x6 (rdOf ByteArray.empty x1 (wrap64 (2 * x6))) (rdOf ByteArray.empty x1 (wrap64 ((wrap64 (2 * x6)) + 1)))).bind fun t584 => (if x5.length < 8796093022208 then (spec_LevelUp.l0 k x0 x1 (x5 ++ [t584]) (wrap64 (x6 + 1))) else (none))) else (none)) else (none)) else (none)) else (some x5)
def spec_LevelUp.f (k : Nat) (a0 : Int) (l1 : List ByteArray) : Option (List ByteArray) := spec_LevelUp.l0 k a0 l1 (([] : List ByteArray)) 0
theorem spec_LevelUp.mono_l : ∀ k, (∀ y0 y1 y2 y3, LeO (spec_LevelUp.l0 k y0 y1 y2 y3) (spec_LevelUp.l0 (k + 1) y0 y1 y2 y3))
 | 0 => fun _ _ _ _ r h => by simp [spec_LevelUp.l0] at h
 | k + 1 => by
  have ih0 := spec_LevelUp.mono_l k
  ·intro y0 y1 y2 y3
   unfold spec_LevelUp.l0
   repeat' first
   | (with_reducible exact ih0 _ _ _ _)
   | (with_reducible exact spec_Node.mono _ _ _ _ _)
   | (with_reducible exact LeO.refl _)
   | (with_reducible exact LeO.none _)
   | (with_reducible refine LeO.ite ?_ ?_)
   | (with_reducible refine LeO.bind ?_ (fun _ => ?_))
   | exact ih0 _ _ _ _
   | exact spec_Node.mono _ _ _ _ _
   | exact LeO.none _
   | refine LeO.ite ?_ ?_
   | refine LeO.bind ?_ (fun _ => ?_)
theorem spec_LevelUp.mono : ∀ a0 a1 k, LeO (spec_LevelUp.f k a0 a1) (spec_LevelUp.f (k + 1) a0 a1) := by
 intro a0 a1 k
 have ih0 := spec_LevelUp.mono_l k
 unfold spec_LevelUp.f
 repeat' first
   | (with_reducible exact ih0 _ _ _ _)
   | (with_reducible exact spec_Node.mono _ _ _ _ _)
   | (with_reducible exact LeO.refl _)
   | (with_reducible exact LeO.none _)
   | (with_reducible refine LeO.ite ?_ ?_)
   | (with_reducible refine LeO.bind ?_ (fun _ => ?_))
   | exact ih0 _ _ _ _
   | exact spec_Node.mono _ _ _ _ _
   | exact LeO.none _
   | refine LeO.ite ?_ ?_
   | refine LeO.bind ?_ (fun _ => ?_)
def spec_LevelUp.T5 : Bool × List (List Nat × List Nat) := (true, [([], []), ([], []), ([], []), ([], []), ([], []), ([4], [4]), ([3, 5], [3, 5]), ([6], [6]), ([], []), ([], []), ([9], [9]), ([10], [10]), ([8, 11], [8, 11]), ([12], [12]), ([1, 2, 7, 13], [1, 2, 7, 13]), ([14], [14]), ([0, 15, 14], [0, 15]), ([16, 16, 0, 1, 2, 3, 4, 5, 6, 7, 8, 9, 10, 11, 12, 13, 14, 15, 16], [0, 16])])
def spec_LevelUp.B5 : List Nat := [0, 0, 0, 0, 0, 16, 56, 120, 0, 0, 512, 1536, 3840, 7936, 16382, 32766, 65535, 131071]
theorem spec_LevelUp.tab5 : rtab .any (opsOf Tryd.f116 5) = spec_LevelUp.T5 := by kernel_rfl
theorem spec_LevelUp.bits5 : waitsOk spec_LevelUp.T5.2 spec_LevelUp.B5 = true := by kernel_rfl
theorem spec_LevelUp.calls (k : Nat) (a0 : Int) (A1 : Option Addr) (c1 : Nat) (l1 : List ByteArray) (r : List ByteArray) (w : World) (hr1 : Kd.C Kd.string w A1 l1.length l1) (hc1 : l1.length ≤ c1) (h : spec_LevelUp.f k a0 l1 = some r) :
  Calls Tryd.prog 116 #[.int .i64 a0, .slice A1 l1.length c1] w fun e w' => ∃ v0_ : Value, e = .returned (v0_) ∧ Kd.R Kd.string 9 w' w.heap.size (fun _ => True) v0_ r ∧ Below w.heap.size w w' := by
 have HR1 := Aside0.mk hr1
 have HC1 := Aside0.mk hc1
 clear hr1 hc1
 have HB := Aside0.mk (Below.refl w.heap.size w)
 have H : (spec_LevelUp.l0 k a0 l1 (([] : List ByteArray)) 0) = some r := h
 clear h
 obtain ⟨y579, hy579⟩ : ∃ y_ : List ByteArray, y_ = (([] : List ByteArray)) := ⟨_, rfl⟩
 replace H : (spec_LevelUp.l0 k a0 l1 y579 0) = some r := by first | (rw [hy579]; with_reducible exact H) | (have H2_ := (Option.bind_some _ _).symm.trans H; rw [hy579]; with_reducible exact H2_) | (have H2_ := (Option.bind_some _ _).symm.trans H; with_reducible exact H2_) | with_reducible exact H | (rw [hy579]; exact H) | exact H
 have Ny579 := Aside0.mk hy579
 clear hy579
 have H' := Aside0.mk H
 clear H
 go_enter Tryd.func116, Tryd.ntmps116
 go_wp2_with (first | ((with_reducible refine gate_dst (N := 7) rfl ?_); refine Kd.R_lit Kd.string _ 9 ?hg (N := 7) ?hd (xs := ([] : List ByteArray)) (inner := []) (ok := fun _ => True) (okp := fun _ => True) ?hr ?hp (fun _ hk => hk) trivial (Below.refl _ _) (Nat.le_refl _) (by simp) ?_; (case hd => rfl); (case hg => rfl); (case hr => first | (go_simp; done) | (go_simp; rfl)); (case hp => exact (Reps.none _ _)); intro v580 w3 ho4 hb hg_ hnew_; clear hg_ hnew_; (first | rw [← Ny579.out] at ho4 | (simp only [Int.reduceToNat] at ho4; rw [← Ny579.out] at ho4)); have n0_ := Aside0.mk (Kd.R_lower ho4 (below_size (hB_))); have n1_ := Aside0.mk (below_step (hB_) hb); have HO581 := n0_; replace HB := n1_; clear n0_ n1_; clear hb ho4))
 go_loopg [5, 6] k (fun kq v5 v6 w' => ∃ (x5_1 : List ByteArray) (x6_1 : Int), v6 = .int .i64 x6_1 ∧ Aside0 (spec_LevelUp.l0 kq a0 l1 x5_1 x6_1 = some r) ∧ Aside0 (kq ≤ k) ∧ Aside0 (Kd.R Kd.string 9 w' w.heap.size (fun _ => True) v5 x5_1) ∧ Aside0 (Below w.heap.size w w'))
 case atStart => exact ⟨(y579), (0), (by first | rfl | (simp; done) | (simp [*]; done)), H', ⟨Nat.le_refl _⟩, ⟨rR_ HO581.out⟩, ⟨hB_⟩⟩
 case round =>
  clear H'
  try clear c1
  try clear p2
  obtain ⟨x5_1, x6_1, rfl, HA, HK1, HO_5, HB⟩ := hrel
  cases gk with
  | zero => exact absurd HA.out (by simp [spec_LevelUp.l0])
  | succ k1 =>
   have H := HA.out
   clear HA
   simp only [spec_LevelUp.l0] at H
   by_cases c5 : (wrap64 ((wrap64 (2 * x6_1)) + 1)) < (l1.length : Int)
   rotate_left
   ·rw [if_neg c5] at H
    have c5b0 := decide_eq_false c5
    clear c5
    obtain rfl := Option.some.inj H
    go_wp2
    go_ret
    exact ⟨_, by first | rfl | (simp [errW_none, errW_some] <;> rfl) | (simp [*, errW_none, errW_some] <;> rfl), rR_ HO_5.out, hB_⟩
   rw [if_pos c5] at H
   have c5b0 := decide_eq_true c5
   clear c5
   obtain ⟨ji6, hji6⟩ : ∃ j_ : Int, (wrap64 (2 * x6_1)) = j_ := ⟨_, rfl⟩
   first | rw [hji6] at H | simp only [hji6] at H
   (try rw [hji6] at c5b0)
   have hji6w : (IntKind.i64.wrap (2 * x6_1)) = ji6 := (i64_w _).trans hji6
   (try rw [hji6] at c5b0)
   obtain ⟨c7, H⟩ := iN_ H
   have c7b0 := decide_eq_true c7
   clear c7
   obtain ⟨c8, H⟩ := iN_ H
   have c8b0 := decide_eq_true c8
   clear c8
   obtain ⟨ji9, hji9⟩ : ∃ j_ : Int, (wrap64 ((ji6) + 1)) = j_ := ⟨_, rfl⟩
   first | rw [hji9] at H | simp only [hji9] at H
   have hji9w : (IntKind.i64.wrap ((ji6) + 1)) = ji9 := (i64_w _).trans hji9
   (try rw [hji9] at c5b0)
   obtain ⟨c10, H⟩ := iN_ H
   have c10b0 := decide_eq_true c10
   clear c10
   replace H := Option.bind_eq_some_iff.mp H
   obtain ⟨t584, A110, H⟩ := H
   try dsimp -simprocs only at H
   have A11 := Aside0.mk A110
   clear A110
   obtain ⟨c12, H⟩ := iN_ H
   have LMc12 := Aside0.mk c12
   clear c12
   obtain ⟨y585, hy585⟩ : ∃ y_ : List ByteArray, y_ = (x5_1 ++ [t584]) := ⟨_, rfl⟩
   replace H : (spec_LevelUp.l0 k1 a0 l1 y585 (wrap64 (x6_1 + 1))) = some r := by first | (rw [hy585]; with_reducible exact H) | (have H2_ := (Option.bind_some _ _).symm.trans H; rw [hy585]; with_reducible exact H2_) | (have H2_ := (Option.bind_some _ _).symm.trans H; with_reducible exact H2_) | with_reducible exact H | (rw [hy585]; exact H) | exact H
   have Ny585 := Aside0.mk hy585
   clear hy585
   have H' := Aside0.mk H
   clear H
   try go_wp2
   have n0_ := Aside0.mk (Kd.R_drew HO_5.out)
   have n1_ := Aside0.mk (below_drew1 HB.out)
   clear HO_5
   clear HB
   have HO_5 := n0_
   have HB := n1_
   clear n0_ n1_
   have p582 : 0 ≤ ((ji6) : Int) := of_decide_eq_true (by first | (with_reducible assumption) | assumption)
   have q582 : (ji6) < (l1.length : Int) := of_decide_eq_true (by first | (with_reducible assumption) | assumption)
   obtain ⟨ad582, e582, hx582_0⟩ := Kd.at_string HR1.out (ji6) p582 q582
   have hw582_0 := hx582_0
   cases e582
   replace hx582_0 := (HB.out.cell (World.block_lt_of_cell? w _ hx582_0)).trans hx582_0
   replace p582 := eq_true p582
   replace q582 := eq_true q582
   have p583 : 0 ≤ ((ji9) : Int) := of_decide_eq_true (by first | (with_reducible assumption) | assumption)
   have q583 : (ji9) < (l1.length : Int) := of_decide_eq_true (by first | (with_reducible assumption) | assumption)
   obtain ⟨ad583, e583, hx583_0⟩ := Kd.at_string HR1.out (ji9) p583 q583
   have hw583_0 := hx583_0
   obtain rfl : ad582 = ad583 := (by injection e583)
   replace hx583_0 := (HB.out.cell (World.block_lt_of_cell? w _ hx583_0)).trans hx583_0
   replace p583 := eq_true p583
   replace q583 := eq_true q583
   refine start_ (n := 18) (S := fun w' => w'.cell? (ad582.add ((ji6)).toNat) = some (.string (rdOf ByteArray.empty l1 (ji6))) ∧ w'.cell? (ad582.add ((ji9)).toNat) = some (.string (rdOf ByteArray.empty l1 (ji9)))) (ds := []) (bb_ 18 0) (by kernel_rfl) rfl rfl ⟨((HB.out.cell (World.block_lt_of_cell? w _ hw582_0)).trans hw582_0), ((HB.out.cell (World.block_lt_of_cell? w _ hw583_0)).trans hw583_0)⟩ (fun hHeld => ?_); refine with_tabW spec_LevelUp.tab5 spec_LevelUp.bits5 (fun HT_ HW_ => ?_)
   generalize wr.drew = w13 at HO_5 HB hx582_0 hx583_0 hHeld ⊢
   refine pS_ 0 16 (bb_ 18 1) HT_.out ?_
   refine pS_ 1 17 (bb_ 18 3) HT_.out ?_
   refine pS_ 2 18 (bb_ 18 7) HT_.out ?_
   refine pS_ 3 19 (bb_ 18 15) HT_.out ?_
   refine pS_ 4 20 (bb_ 18 31) HT_.out ?_
   refine pS_ 5 21 (bb_ 18 63) HT_.out ?_
   refine pS_ 6 22 (bb_ 18 127) HT_.out ?_
   refine pS_ 8 24 (bb_ 18 383) HT_.out ?_
   refine pS_ 9 25 (bb_ 18 895) HT_.out ?_
   refine pS_ 10 26 (bb_ 18 1919) HT_.out ?_
   refine pS_ 11 27 (bb_ 18 3967) HT_.out ?_
   refine pS_ 12 28 (bb_ 18 8063) HT_.out ?_
   refine tS_ 7 23 (bb_ 18 8191) (take_ofW HT_.out HW_.out (by kernel_rfl)) hHeld ?_
   refine tS_ 13 29 (bb_ 18 16383) (take_ofW HT_.out HW_.out (by kernel_rfl)) hHeld ?_
   refine one_ (i := 14) (N := some 30) (bb_ 18 32767) rfl rfl (one_of HT_.out (by kernel_rfl)) (by decide) (fun K hK => ?_)
   refine goes_ Tryd.func114 (by kernel_rfl) rfl #[.int .i64 a0, .int .i64 x6_1, .string (rdOf ByteArray.empty l1 (ji6)), .string (rdOf ByteArray.empty l1 (ji9))] (by rfl) rfl rfl (by (try simp only [List.map_toArray, List.map_cons, List.map_nil]); first | done | (simp only [hji6, hji9]; rfl) | rfl | (simp only [List.length_drop, List.length_take]; rfl)) ?_
   with_reducible refine (spec_Node.calls k1 a0 x6_1 (rdOf ByteArray.empty l1 (ji6)) (rdOf ByteArray.empty l1 (ji9)) t584 _ A11.out).mono ?_
   rintro e w14 ⟨rfl, hb⟩
   refine ⟨_, rfl, ?_⟩
   have n0_ := Aside0.mk (Kd.R_below (rR_ HO_5.out) hb)
   have n1_ := Aside0.mk (below_step (hB_) hb)
   clear HO_5
   clear HB
   have HO_5 := n0_
   have HB := n1_
   clear n0_ n1_
   (try clear hb)
   (try clear hb2)
   (try clear hk)
   (try clear hi)
   refine hK.out _ _ ⟨((HB.out.cell (World.block_lt_of_cell? w _ hw582_0)).trans hw582_0), ((HB.out.cell (World.block_lt_of_cell? w _ hw583_0)).trans hw583_0)⟩ (fun hHeld => ?_)
   clear hK K
   refine norm_ (a' := ?_) ?_ ?_
   rotate_left
   ·show Act.put _ (some 30) _ = _
    simp only [Act.put, List.setIfInBounds_toArray, List.set_cons_zero, List.set_cons_succ, i64_w, i32_w]
    rfl
   refine one_ (i := 15) (N := some 31) (bb_ 18 65535) rfl rfl (one_of HT_.out (by kernel_rfl)) (by decide) (fun K hK => ?_)
   refine value_ (w1 := ?_) (v := ?_) (by rfl) rfl ?_ ?_
   rotate_left 2
   ·go_simp
    constructor
    ·rfl
    ·rfl
   refine hK.out _ _ ⟨(World.cell?_alloc_lt _ _ _ (World.block_lt_of_cell? _ _ (((HB.out.cell (World.block_lt_of_cell? w _ hw582_0)).trans hw582_0)))).trans (((HB.out.cell (World.block_lt_of_cell? w _ hw582_0)).trans hw582_0)), (World.cell?_alloc_lt _ _ _ (World.block_lt_of_cell? _ _ (((HB.out.cell (World.block_lt_of_cell? w _ hw583_0)).trans hw583_0)))).trans (((HB.out.cell (World.block_lt_of_cell? w _ hw583_0)).trans hw583_0))⟩ (fun hHeld => ?_)
   clear hK K
   refine norm_ (a' := ?_) ?_ ?_
   rotate_left
   ·show Act.put _ (some 31) _ = _
    simp only [Act.put, List.setIfInBounds_toArray, List.set_cons_zero, List.set_cons_succ, i64_w, i32_w]
    rfl
   refine one_ (i := 16) (N := some 32) (bb_ 18 131071) rfl rfl (one_of HT_.out (by kernel_rfl)) (by decide) (fun K hK => ?_)
   refine Kd.R_append_step Kd.string (w0 := w) w.heap.size (by rfl) (.tmp 16) (.tmp 31) 25 9 (.string ⟨#[]⟩) 16 rfl Tryd.underlying25 info9 rfl (by decide) (by omega) u5 x5_1 t584 [.string t584] (fun _ => True) (fun _ => False) rfl rfl ?aP (fun _ hk => hk.elim) ?aF ?aO ?aB ?aS ?aL ?_
   (case aP => exact rfl)
   (case aB => exact (hB_))
   (case aF => exact (fun _ _ => trivial))
   (case aO => exact (rR_ HO_5.out))
   (case aS => exact (below_size (hB_)))
   (case aL => have := LMc12.out; omega)
   intro v586 w15 ho hb hg hat
   rw [← Ny585.out] at ho
   have n0_ := Aside0.mk (hb)
   have n1_ := Aside0.mk (ho)
   clear HB
   clear HO_5
   have HB := n0_
   have HO587 := n1_
   clear n0_ n1_
   clear ho hb hg hat
   refine hK.out _ _ ⟨((HB.out.cell (World.block_lt_of_cell? w _ hw582_0)).trans hw582_0), ((HB.out.cell (World.block_lt_of_cell? w _ hw583_0)).trans hw583_0)⟩ (fun hHeld => ?_)
   clear hK K
   refine norm_ (a' := ?_) ?_ ?_
   rotate_left
   ·show Act.put _ (some 32) _ = _
    simp only [Act.put, List.setIfInBounds_toArray, List.set_cons_zero, List.set_cons_succ, i64_w, i32_w]
    rfl
   refine pS_ 17 5 (bb_ 18 262143) HT_.out ?_
   refine done_ (done_of HT_.out (by kernel_rfl)) ?_
   try go_wp2
   go_roundg k1
   case measure => have := HK1.out; omega
   case rel => exact ⟨(y585), (wrap64 (x6_1 + 1)), (by first | rfl | (simp; done) | (simp [*]; done)), H', ⟨by have := HK1.out; omega⟩, ⟨rR_ HO587.out⟩, ⟨hB_⟩⟩

/-! ### spec_RootOf: function 120 -/
def spec_RootOf.l0 : Nat → List ByteArray → Int → Option (ByteArray)
 | 0, _, _ => none
 | k + 1, x0, x3 => if x3 ≤ 2 then ((spec_LevelUp.f k x3 x0).bind fun t588 => (spec_RootOf.l0 k t588 (wrap64 (x3 + 1)))) else (if 0 < (x0.length : Int) then (some (rdOf ByteArray.empty x0 0)) else (none))
def spec_RootOf.f (k : Nat) (l0 : List ByteArray) : Option (ByteArray) := if (l0.length : Int) = 4 then (spec_RootOf.l0 k l0 1) else (some (⟨#[]⟩ : ByteArray))
theorem spec_RootOf.mono_l : ∀ k, (∀ y0 y1, LeO (spec_RootOf.l0 k y0 y1) (spec_RootOf.l0 (k + 1) y0 y1))
 | 0 => fun _ _ r h => by simp [spec_RootOf.l0] at h
 | k + 1 => by
  have ih0 := spec_RootOf.mono_l k
  ·intro y0 y1
   unfold spec_RootOf.l0
   repeat' first
   | (with_reducible exact ih0 _ _)
   | (with_reducible exact spec_LevelUp.mono _ _ _)
   | (with_reducible exact LeO.refl _)
   | (with_reducible exact LeO.none _)
   | (with_reducible refine LeO.ite ?_ ?_)
   | (with_reducible refine LeO.bind ?_ (fun _ => ?_))
   | exact ih0 _ _
   | exact spec_LevelUp.mono _ _ _
   | exact LeO.none _
   | refine LeO.ite ?_ ?_
   | refine LeO.bind ?_ (fun _ => ?_)
theorem spec_RootOf.mono : ∀ a0 k, LeO (spec_RootOf.f k a0) (spec_RootOf.f (k + 1) a0) := by
 intro a0 k
 have ih0 := spec_RootOf.mono_l k
 unfold spec_RootOf.f
 repeat' first
   | (with_reducible exact ih0 _ _)
   | (with_reducible exact spec_LevelUp.mono _ _ _)
   | (with_reducible exact LeO.refl _)
   | (with_reducible exact LeO.none _)
   | (with_reducible refine LeO.ite ?_ ?_)
   | (with_reducible refine LeO.bind ?_ (fun _ => ?_))
   | exact ih0 _ _
   | exact spec_LevelUp.mono _ _ _
   | exact LeO.none _
   | refine LeO.ite ?_ ?_
   | refine LeO.bind ?_ (fun _ => ?_)
theorem spec_RootOf.calls (k : Nat) (P0_ : Nat → Prop) (A0 : Option Addr) (c0 : Nat) (l0 : List ByteArray) (r : ByteArray) (w : World) (hs0 : Kd.V Kd.string 9 w w.heap.size (fun k_ => P0_ k_) (.slice A0 l0.length c0) l0) (h : spec_RootOf.f k l0 = some r) :
  Calls Tryd.prog 120 #[.slice A0 l0.length c0] w fun e w' => e = .returned (.string r) ∧ Below w.heap.size w w' := by
 have HO0 := Aside0.mk (show Kd.V Kd.string 9 w w.heap.size (fun k_ => (P0_ k_ ∨ w.heap.size ≤ k_)) (.slice A0 l0.length c0) l0 from Kd.V_mono hs0 (fun k_ hk => .inl hk))
 have HB := Aside0.mk (Below.refl w.heap.size w)
 have H : (if (l0.length : Int) = 4 then (spec_RootOf.l0 k l0 1) else (some (⟨#[]⟩ : ByteArray))) = some r := h
 clear h
 by_cases c2 : (l0.length : Int) = 4
 rotate_left
 ·rw [if_neg c2] at H
  have c2b0 : ((l0.length : Int) == 4) = false := beq_eq_false_iff_ne.mpr c2
  have c2b1 : ((l0.length : Int) != 4) = true := bne_iff_ne.mpr c2
  obtain rfl := Option.some.inj H
  go_enter Tryd.func120, Tryd.ntmps120
  go_wp2
  go_ret
  exact ⟨by first | rfl | (simp [errW_none, errW_some] <;> rfl) | (simp [*, errW_none, errW_some] <;> rfl), hB_⟩
 rw [if_pos c2] at H
 have c2b0 : ((l0.length : Int) == 4) = true := beq_iff_eq.mpr c2
 have c2b1 : ((l0.length : Int) != 4) = false := bne_eq_false_iff_eq.mpr c2
 clear c2
 have H' := Aside0.mk H
 clear H
 go_enter Tryd.func120, Tryd.ntmps120
 go_wp2
 go_loopg [0, 3] k (fun kq v0 v3 w' => ∃ (x0_1 : List ByteArray) (x3_1 : Int), v3 = .int .i64 x3_1 ∧ Aside0 (spec_RootOf.l0 kq x0_1 x3_1 = some r) ∧ Aside0 (kq ≤ k) ∧ Aside0 (Kd.V Kd.string 9 w' w.heap.size (fun k_ => (P0_ k_ ∨ w.heap.size ≤ k_)) v0 x0_1) ∧ Aside0 (Below w.heap.size w w'))
 case atStart => exact ⟨(l0), (1), (by first | rfl | (simp; done) | (simp [*]; done)), H', ⟨Nat.le_refl _⟩, ⟨rV_ HO0.out⟩, ⟨hB_⟩⟩
 case round =>
  clear H'
  try clear c1
  try clear c2
  try clear c2b0
  try clear c2b1
  try clear p2
  obtain ⟨x0_1, x3_1, rfl, HA, HK1, HO_0, HB⟩ := hrel
  cases gk with
  | zero => exact absurd HA.out (by simp [spec_RootOf.l0])
  | succ k1 =>
   have H := HA.out
   clear HA
   simp only [spec_RootOf.l0] at H
   by_cases c3 : x3_1 ≤ 2
   ·rw [if_pos c3] at H
    have c3b0 := decide_eq_true c3
    clear c3
    replace H := Option.bind_eq_some_iff.mp H
    obtain ⟨t588, A40, H⟩ := H
    try dsimp -simprocs only at H
    have A4 := Aside0.mk A40
    clear A40
    have H' := Aside0.mk H
    clear H
    obtain ⟨Ao5, co5, eo5⟩ := Kd.V_slice HO_0.out
    subst eo5
    go_wp2_with (first | ((with_reducible refine gate_callee (f := 116) rfl ?_); refine goesL_ (some 13) rfl rfl Tryd.func116 (by kernel_rfl) rfl #[.int .i64 x3_1, .slice Ao5 x0_1.length co5] rfl aM_ ?_; (with_reducible refine (spec_LevelUp.calls k1 x3_1 _ _ x0_1 t588 _ ?side1 ?side2 A4.out).mono ?_); (case side1 => exact cR_ (Kd.V_reads' HO_0.out).2.2); (case side2 => exact (Kd.V_reads' HO_0.out).2.1); rintro e w6 ⟨v589, rfl, ho0, hb⟩; refine ⟨_, rfl, ?_⟩; have n0_ := Aside0.mk (Kd.V_elder' (rV_ HO_0.out) (Kd.R_base ho0) hb); have n1_ := Aside0.mk (Kd.R_lower (Kd.R_newM (M := fun k_ => (w.heap.size ≤ k_)) ho0 (below_size (hB_)) (fun k_ h_ => h_)) (below_size (hB_))); have n2_ := Aside0.mk (below_step (hB_) hb); replace HO_0 := n0_; have HO590 := n1_; replace HB := n2_; clear n0_ n1_ n2_; (try clear hb); (try clear ho0)))
    go_roundg k1
    case measure => have := HK1.out; omega
    case rel => exact ⟨(t588), (wrap64 (x3_1 + 1)), (by first | rfl | (simp; done) | (simp [*]; done)), H', ⟨by have := HK1.out; omega⟩, ⟨Kd.V_mono (Kd.R_V (by refine kR_ ?_; exact Kd.R_mono HO590.out (fun _ hk => hk.1))) (fun k_ hk => by first | exact ⟨(.inr (hk.1)), hk.2⟩ | exact (.inr (hk)))⟩, ⟨hB_⟩⟩
   rw [if_neg c3] at H
   have c3b0 := decide_eq_false c3
   clear c3
   obtain ⟨c7, H⟩ := iN_ H
   have c7b0 := decide_eq_true c7
   have c7b1 : decide (0 < x0_1.length) = true := decide_eq_true (by omega)
   clear c7
   obtain rfl := Option.some.inj H
   obtain ⟨Ao8, co8, eo8⟩ := Kd.V_slice HO_0.out
   subst eo8
   have p591 : 0 ≤ (0 : Int) := (by omega)
   have q591 : 0 < (x0_1.length : Int) := of_decide_eq_true (by first | (with_reducible assumption) | assumption)
   obtain ⟨ad591, e591, hx591_0⟩ := Kd.at_string (Kd.V_reads' HO_0.out).2.2 0 p591 q591
   cases e591
   have qi591 : (0 < x0_1.length) = True := eq_true (by omega)
   (try rw [show ((0 : Int)).toNat = 0 from rfl] at hx591_0)
   (try rw [Addr.add_zero'] at hx591_0)
   replace p591 := eq_true p591
   replace q591 := eq_true q591
   go_wp2
   go_ret
   exact ⟨by first | rfl | (simp [errW_none, errW_some] <;> rfl) | (simp [*, errW_none, errW_some] <;> rfl), hB_⟩

/-! ### spec_PublicOf: function 101 -/
def spec_PublicOf.f (k : Nat) (a0 : ByteArray) : Option (ByteArray) := (spec_l16Leaves.f k a0).bind fun t592 => ((spec_RootOf.f k t592).bind fun t595 => (some t595))
theorem spec_PublicOf.mono : ∀ a0 k, LeO (spec_PublicOf.f k a0) (spec_PublicOf.f (k + 1) a0) := by
 intro a0 k
 unfold spec_PublicOf.f
 repeat' first
   | (with_reducible exact spec_RootOf.mono _ _)
   | (with_reducible exact spec_l16Leaves.mono _ _)
   | (with_reducible exact LeO.refl _)
   | (with_reducible exact LeO.none _)
   | (with_reducible refine LeO.ite ?_ ?_)
   | (with_reducible refine LeO.bind ?_ (fun _ => ?_))
   | exact spec_RootOf.mono _ _
   | exact spec_l16Leaves.mono _ _
   | exact LeO.none _
   | refine LeO.ite ?_ ?_
   | refine LeO.bind ?_ (fun _ => ?_)
theorem spec_PublicOf.calls (k : Nat) (a0 : ByteArray) (r : ByteArray) (w : World) (h : spec_PublicOf.f k a0 = some r) :
  Calls Tryd.prog 101 #[.string a0] w fun e w' => e = .returned (.string r) ∧ Below w.heap.size w w' := by
 have HB := Aside0.mk (Below.refl w.heap.size w)
 have H : ((spec_l16Leaves.f k a0).bind fun t592 => ((spec_RootOf.f k t592).bind fun t595 => (some t595))) = some r := h
 clear h
 replace H := Option.bind_eq_some_iff.mp H
 obtain ⟨t592, A20, H⟩ := H
 try dsimp -simprocs only at H
 have A2 := Aside0.mk A20
 clear A20
 replace H := Option.bind_eq_some_iff.mp H
 obtain ⟨t595, A30, H⟩ := H
 try dsimp -simprocs only at H
 have A3 := Aside0.mk A30
 clear A30
 obtain rfl := Option.some.inj H
 go_enter Tryd.func101, Tryd.ntmps101
 go_wp2_with (first | ((with_reducible refine gate_callee (f := 89) rfl ?_); refine goesL_ (some 4) rfl rfl Tryd.func89 (by kernel_rfl) rfl #[.string a0] rfl aM_ ?_; (with_reducible refine (spec_l16Leaves.calls k a0 t592 _ A2.out).mono ?_); rintro e w4 ⟨v593, rfl, ho0, hb⟩; refine ⟨_, rfl, ?_⟩; have n0_ := Aside0.mk (Kd.R_lower ho0 (below_size (hB_))); have n1_ := Aside0.mk (below_step (hB_) hb); have HO594 := n0_; replace HB := n1_; clear n0_ n1_; (try clear hb); (try clear ho0); obtain ⟨Ao5, co5, eo5⟩ := Kd.R_slice HO594.out; subst eo5) | ((with_reducible refine gate_callee (f := 120) rfl ?_); refine goesL_ (some 5) rfl rfl Tryd.func120 (by kernel_rfl) rfl #[.slice Ao5 t592.length co5] rfl aM_ ?_; (with_reducible refine (spec_RootOf.calls k (fun k_ => some k_ = (.slice Ao5 t592.length co5 : Value).ownBlock) _ _ t592 t595 _ ?side1 A3.out).mono ?_); (case side1 => exact Kd.R_V (Kd.R_tight rfl (HO594.out))); rintro e w6 ⟨rfl, hb⟩; refine ⟨_, rfl, ?_⟩; have n0_ := Aside0.mk (Kd.R_below (rR_ HO594.out) hb); have n1_ := Aside0.mk (below_step (hB_) hb); replace HO594 := n0_; replace HB := n1_; clear n0_ n1_; (try clear hb)))
 go_ret
 exact ⟨by first | rfl | (simp [errW_none, errW_some] <;> rfl) | (simp [*, errW_none, errW_some] <;> rfl), hB_⟩

/-! ### spec_HyperPublic: function 61 -/
def spec_HyperPublic.f (k : Nat) (a0 : ByteArray) : Option (ByteArray) := if a0.size + 1 ≤ 9223372036854775807 then ((spec_PublicOf.f k (a0 ++ (⟨#[116]⟩ : ByteArray))).bind fun t596 => (some t596)) else (none)
theorem spec_HyperPublic.mono : ∀ a0 k, LeO (spec_HyperPublic.f k a0) (spec_HyperPublic.f (k + 1) a0) := by
 intro a0 k
 unfold spec_HyperPublic.f
 repeat' first
   | (with_reducible exact spec_PublicOf.mono _ _)
   | (with_reducible exact LeO.refl _)
   | (with_reducible exact LeO.none _)
   | (with_reducible refine LeO.ite ?_ ?_)
   | (with_reducible refine LeO.bind ?_ (fun _ => ?_))
   | exact spec_PublicOf.mono _ _
   | exact LeO.none _
   | refine LeO.ite ?_ ?_
   | refine LeO.bind ?_ (fun _ => ?_)
theorem spec_HyperPublic.calls (k : Nat) (a0 : ByteArray) (r : ByteArray) (w : World) (h : spec_HyperPublic.f k a0 = some r) :
  Calls Tryd.prog 61 #[.string a0] w fun e w' => e = .returned (.string r) ∧ Below w.heap.size w w' := by
 have HB := Aside0.mk (Below.refl w.heap.size w)
 have H : (if a0.size + 1 ≤ 9223372036854775807 then ((spec_PublicOf.f k (a0 ++ (⟨#[116]⟩ : ByteArray))).bind fun t596 => (some t596)) else (none)) = some r := h
 clear h
 obtain ⟨c2, H⟩ := iN_ H
 have c2b0 := eq_true c2
 have c2b1 := decide_eq_true c2
 try have c2b2 : (9223372036854775807 < a0.size + 1) = False := eq_false (Nat.not_lt.2 c2)
 replace H := Option.bind_eq_some_iff.mp H
 obtain ⟨t596, A30, H⟩ := H
 try dsimp -simprocs only at H
 have A3 := Aside0.mk A30
 clear A30
 obtain rfl := Option.some.inj H
 go_enter Tryd.func61, Tryd.ntmps61
 go_wp2_with (first | ((with_reducible refine gate_callee (f := 101) rfl ?_); refine goesL_ (some 5) rfl rfl Tryd.func101 (by kernel_rfl) rfl #[.string (a0 ++ (⟨#[116]⟩ : ByteArray))] rfl aM_ ?_; (with_reducible refine (spec_PublicOf.calls k (a0 ++ (⟨#[116]⟩ : ByteArray)) t596 _ A3.out).mono ?_); rintro e w4 ⟨rfl, hb⟩; refine ⟨_, rfl, ?_⟩; have n0_ := Aside0.mk (below_step (hB_) hb); replace HB := n0_; clear n0_; (try clear hb)))
 go_ret
 exact ⟨by first | rfl | (simp [errW_none, errW_some] <;> rfl) | (simp [*, errW_none, errW_some] <;> rfl), hB_⟩

end Go.Proofs.YtjcmafoepabpkaaDoor.P
