-- printed texts of this session, regrouped
import Derived.Test.YtjcmafoepabpkaaDoorMW7
import Derived.Test.YtjcmafoepabpkaaDoorMW6
import Derived.Test.YtjcmafoepabpkaaDoorPx0
import Derived.Test.YtjcmafoepabpkaaDoorPx1
import Derived.Test.YtjcmafoepabpkaaDoorPx9
namespace Go.Proofs.YtjcmafoepabpkaaDoor.P
open Go.RowKit Go.Proofs.YtjcmafoepabpkaaDoorW.PrintWords Go.Proofs.YtjcmafoepabpkaaDoorW.PrintLast Go.Proofs.YtjcmafoepabpkaaDoorW.PrintMore
attribute [local go_sem] max2_int min2_int max_two min_two max_three min_three max_four min_four   -- for this text's walks alone
set_option linter.unusedVariables false
set_option linter.unusedSimpArgs false
set_option maxHeartbeats 8000000
set_option maxRecDepth 100000

/-! ### spec_OnceSign: function 87 -/
def spec_OnceSign.l0 : Nat → List ByteArray → Int → List ByteArray → List Int → Int → Option (List ByteArray)
 | 0, _, _, _, _, _ => none
 | k + 1, x0, x1, x7, x8, x9 => if x9 < 10 then (if 0 ≤ x9 then (if x9 < (x0.length : Int) then (if x9 < (x8.length : Int) then ((spec_ChainOf.f k (rdOf ByteArray.empty x0 x9) x1 x9 0 (rd x8 x9)).bind fun t607 => (if x7.length < 8796093022208 then (spec_OnceSign.l0 k x0 x1 (x7 ++ [t607]) x8 (wrap64 (x9 + 1))) else (none))) else (none)) else (none)) else (none)) else (some x7)
def spec_OnceSign.f (k : Nat) (l0 : List ByteArray) (a1 : Int) (a2 : ByteArray) : Option (List ByteArray) := (some (([] : List ByteArray) : List ByteArray)).bind fun y599 => (if (l0.length : Int) = 10 then ((spec_DigitsOf.f k a2).bind fun t602 => (spec_OnceSign.l0 k l0 a1 y599 t602 0)) else (some y599))
theorem spec_OnceSign.mono_l : ∀ k, (∀ y0 y1 y2 y3 y4, LeO (spec_OnceSign.l0 k y0 y1 y2 y3 y4) (spec_OnceSign.l0 (k + 1) y0 y1 y2 y3 y4))
 | 0 => fun _ _ _ _ _ r h => by simp [spec_OnceSign.l0] at h
 | k + 1 => by
  have ih0 := spec_OnceSign.mono_l k
  ·intro y0 y1 y2 y3 y4
   unfold spec_OnceSign.l0
   repeat' first
   | (with_reducible exact ih0 _ _ _ _ _)
   | (with_reducible exact spec_ChainOf.mono _ _ _ _ _ _)
   | (with_reducible exact spec_DigitsOf.mono _ _)
   | (with_reducible exact LeO.refl _)
   | (with_reducible exact LeO.none _)
   | (with_reducible refine LeO.ite ?_ ?_)
   | (with_reducible refine LeO.bind ?_ (fun _ => ?_))
   | exact ih0 _ _ _ _ _
   | exact spec_ChainOf.mono _ _ _ _ _ _
   | exact spec_DigitsOf.mono _ _
   | exact LeO.none _
   | refine LeO.ite ?_ ?_
   | refine LeO.bind ?_ (fun _ => ?_)
theorem spec_OnceSign.mono : ∀ a0 a1 a2 k, LeO (spec_OnceSign.f k a0 a1 a2) (spec_OnceSign.f (k + 1) a0 a1 a2) := by
 intro a0 a1 a2 k
 have ih0 := spec_OnceSign.mono_l k
 unfold spec_OnceSign.f
 repeat' first
   | (with_reducible exact ih0 _ _ _ _ _)
   | (with_reducible exact spec_ChainOf.mono _ _ _ _ _ _)
   | (with_reducible exact spec_DigitsOf.mono _ _)
   | (with_reducible exact LeO.refl _)
   | (with_reducible exact LeO.none _)
   | (with_reducible refine LeO.ite ?_ ?_)
   | (with_reducible refine LeO.bind ?_ (fun _ => ?_))
   | exact ih0 _ _ _ _ _
   | exact spec_ChainOf.mono _ _ _ _ _ _
   | exact spec_DigitsOf.mono _ _
   | exact LeO.none _
   | refine LeO.ite ?_ ?_
   | refine LeO.bind ?_ (fun _ => ?_)
def spec_OnceSign.T8 : Bool × List (List Nat × List Nat) := (true, [([], []), ([], []), ([], []), ([1, 2], [1, 2]), ([3], [3]), ([], []), ([], []), ([], []), ([], []), ([7, 8], [7, 8]), ([9], [9]), ([4, 5, 6, 10], [4, 5, 6, 10]), ([11], [11]), ([0, 12, 11], [0, 12]), ([13, 13, 0, 1, 2, 3, 4, 5, 6, 7, 8, 9, 10, 11, 12, 13], [0, 13])])
def spec_OnceSign.B8 : List Nat := [0, 0, 0, 6, 14, 0, 0, 0, 0, 384, 896, 2046, 4094, 8191, 16383]
theorem spec_OnceSign.tab8 : rtab .any (opsOf Tryd.f87 8) = spec_OnceSign.T8 := by kernel_rfl
theorem spec_OnceSign.bits8 : waitsOk spec_OnceSign.T8.2 spec_OnceSign.B8 = true := by kernel_rfl
theorem spec_OnceSign.calls (k : Nat) (A0 : Option Addr) (c0 : Nat) (l0 : List ByteArray) (a1 : Int) (a2 : ByteArray) (r : List ByteArray) (w : World) (hr0 : Kd.C Kd.string w A0 l0.length l0) (hc0 : l0.length ≤ c0) (h : spec_OnceSign.f k l0 a1 a2 = some r) :
  Calls Tryd.prog 87 #[.slice A0 l0.length c0, .int .i64 a1, .string a2] w fun e w' => ∃ v0_ : Value, e = .returned (v0_) ∧ Kd.R Kd.string 9 w' w.heap.size (fun _ => True) v0_ r ∧ Below w.heap.size w w' := by
 have HR0 := Aside0.mk hr0
 have HC0 := Aside0.mk hc0
 clear hr0 hc0
 have HB := Aside0.mk (Below.refl w.heap.size w)
 have H : ((some (([] : List ByteArray) : List ByteArray)).bind fun y599 => (if (l0.length : Int) = 10 then ((spec_DigitsOf.f k a2).bind fun t602 => (spec_OnceSign.l0 k l0 a1 y599 t602 0)) else (some y599))) = some r := h
 clear h
 obtain ⟨y599, hy599⟩ : ∃ y_ : List ByteArray, y_ = (([] : List ByteArray)) := ⟨_, rfl⟩
 replace H : (if (l0.length : Int) = 10 then ((spec_DigitsOf.f k a2).bind fun t602 => (spec_OnceSign.l0 k l0 a1 y599 t602 0)) else (some y599)) = some r := by first | (rw [hy599]; with_reducible exact H) | (have H2_ := (Option.bind_some _ _).symm.trans H; rw [hy599]; with_reducible exact H2_) | (have H2_ := (Option.bind_some _ _).symm.trans H; with_reducible exact H2_) | with_reducible exact H | (rw [hy599]; exact H) | exact H
 have Ny599 := Aside0.mk hy599
 clear hy599
 by_cases c4 : (l0.length : Int) = 10
 rotate_left
 ·rw [if_neg c4] at H
  have c4b0 : ((l0.length : Int) == 10) = false := beq_eq_false_iff_ne.mpr c4
  have c4b1 : ((l0.length : Int) != 10) = true := bne_iff_ne.mpr c4
  obtain rfl := Option.some.inj H
  go_enter Tryd.func87, Tryd.ntmps87
  go_wp2_with (first | ((with_reducible refine gate_dst (N := 10) rfl ?_); refine Kd.R_lit Kd.string _ 9 ?hg (N := 10) ?hd (xs := ([] : List ByteArray)) (inner := []) (ok := fun _ => True) (okp := fun _ => True) ?hr ?hp (fun _ hk => hk) trivial (Below.refl _ _) (Nat.le_refl _) (by simp) ?_; (case hd => rfl); (case hg => rfl); (case hr => first | (go_simp; done) | (go_simp; rfl)); (case hp => exact (Reps.none _ _)); intro v600 w19 ho20 hb hg_ hnew_; clear hg_ hnew_; (first | rw [← Ny599.out] at ho20 | (simp only [Int.reduceToNat] at ho20; rw [← Ny599.out] at ho20)); have n0_ := Aside0.mk (Kd.R_lower ho20 (below_size (hB_))); have n1_ := Aside0.mk (below_step (hB_) hb); have HO601 := n0_; replace HB := n1_; clear n0_ n1_; clear hb ho20))
  go_ret
  exact ⟨_, by first | rfl | (simp [errW_none, errW_some] <;> rfl) | (simp [*, errW_none, errW_some] <;> rfl), rR_ HO601.out, hB_⟩
 rw [if_pos c4] at H
 have c4b0 : ((l0.length : Int) == 10) = true := beq_iff_eq.mpr c4
 have c4b1 : ((l0.length : Int) != 10) = false := bne_eq_false_iff_eq.mpr c4
 clear c4
 replace H := Option.bind_eq_some_iff.mp H
 obtain ⟨t602, A50, H⟩ := H
 try dsimp -simprocs only at H
 have A5 := Aside0.mk A50
 clear A50
 have H' := Aside0.mk H
 clear H
 go_enter Tryd.func87, Tryd.ntmps87
 go_wp2_with (first | ((with_reducible refine gate_dst (N := 10) rfl ?_); refine Kd.R_lit Kd.string _ 9 ?hg (N := 10) ?hd (xs := ([] : List ByteArray)) (inner := []) (ok := fun _ => True) (okp := fun _ => True) ?hr ?hp (fun _ hk => hk) trivial (Below.refl _ _) (Nat.le_refl _) (by simp) ?_; (case hd => rfl); (case hg => rfl); (case hr => first | (go_simp; done) | (go_simp; rfl)); (case hp => exact (Reps.none _ _)); intro v600 w6 ho7 hb hg_ hnew_; clear hg_ hnew_; (first | rw [← Ny599.out] at ho7 | (simp only [Int.reduceToNat] at ho7; rw [← Ny599.out] at ho7)); have n0_ := Aside0.mk (Kd.R_lower ho7 (below_size (hB_))); have n1_ := Aside0.mk (below_step (hB_) hb); have HO601 := n0_; replace HB := n1_; clear n0_ n1_; clear hb ho7) | ((with_reducible refine gate_callee (f := 70) rfl ?_); refine goesL_ (some 16) rfl rfl Tryd.func70 (by kernel_rfl) rfl #[.string a2] rfl aM_ ?_; (with_reducible refine (spec_DigitsOf.calls k a2 t602 _ A5.out).mono ?_); rintro e w8 ⟨v603, rfl, ho0, hb⟩; refine ⟨_, rfl, ?_⟩; have n0_ := Aside0.mk (Kd.R_below (rR_ HO601.out) hb); have n1_ := Aside0.mk (Kd.R_lower ho0 (below_size (hB_))); have n2_ := Aside0.mk (below_step (hB_) hb); replace HO601 := n0_; have HO604 := n1_; replace HB := n2_; clear n0_ n1_ n2_; (try clear hb); (try clear ho0)))
 go_loopg [7, 9] k (fun kq v7 v9 w' => ∃ (x7_1 : List ByteArray) (x9_1 : Int), v9 = .int .i64 x9_1 ∧ Aside0 (spec_OnceSign.l0 kq l0 a1 x7_1 t602 x9_1 = some r) ∧ Aside0 (kq ≤ k) ∧ Aside0 (Kd.R Kd.string 9 w' w.heap.size (fun _ => True) v7 x7_1) ∧ Aside0 (Kd.R (Kd.int .i64) 3 w' w.heap.size (fun _ => True) v603 t602) ∧ Aside0 (Below w.heap.size w w'))
 case atStart => exact ⟨(y599), (0), (by first | rfl | (simp; done) | (simp [*]; done)), H', ⟨Nat.le_refl _⟩, ⟨rR_ HO601.out⟩, ⟨rR_ HO604.out⟩, ⟨hB_⟩⟩
 case round =>
  clear H'
  try clear p2
  try clear c4
  try clear c4b0
  try clear c4b1
  try clear c7
  try clear c8
  obtain ⟨x7_1, x9_1, rfl, HA, HK1, HO_7, HO_8, HB⟩ := hrel
  cases gk with
  | zero => exact absurd HA.out (by simp [spec_OnceSign.l0])
  | succ k1 =>
   have H := HA.out
   clear HA
   simp only [spec_OnceSign.l0] at H
   by_cases c9 : x9_1 < 10
   rotate_left
   ·rw [if_neg c9] at H
    have c9b0 := decide_eq_false c9
    clear c9
    obtain rfl := Option.some.inj H
    go_wp2
    go_ret
    exact ⟨_, by first | rfl | (simp [errW_none, errW_some] <;> rfl) | (simp [*, errW_none, errW_some] <;> rfl), rR_ HO_7.out, hB_⟩
   rw [if_pos c9] at H
   have c9b0 := decide_eq_true c9
   clear c9
   obtain ⟨c10, H⟩ := iN_ H
   have c10b0 := decide_eq_true c10
   clear c10
   obtain ⟨c11, H⟩ := iN_ H
   have c11b0 := decide_eq_true c11
   clear c11
   obtain ⟨c12, H⟩ := iN_ H
   have c12b0 := decide_eq_true c12
   clear c12
   replace H := Option.bind_eq_some_iff.mp H
   obtain ⟨t607, A130, H⟩ := H
   try dsimp -simprocs only at H
   have A13 := Aside0.mk A130
   clear A130
   obtain ⟨c14, H⟩ := iN_ H
   have LMc14 := Aside0.mk c14
   clear c14
   obtain ⟨y608, hy608⟩ : ∃ y_ : List ByteArray, y_ = (x7_1 ++ [t607]) := ⟨_, rfl⟩
   replace H : (spec_OnceSign.l0 k1 l0 a1 y608 t602 (wrap64 (x9_1 + 1))) = some r := by first | (rw [hy608]; with_reducible exact H) | (have H2_ := (Option.bind_some _ _).symm.trans H; rw [hy608]; with_reducible exact H2_) | (have H2_ := (Option.bind_some _ _).symm.trans H; with_reducible exact H2_) | with_reducible exact H | (rw [hy608]; exact H) | exact H
   have Ny608 := Aside0.mk hy608
   clear hy608
   have H' := Aside0.mk H
   clear H
   try go_wp2
   have n0_ := Aside0.mk (Kd.R_drew HO_7.out)
   have n1_ := Aside0.mk (Kd.R_drew HO_8.out)
   have n2_ := Aside0.mk (below_drew1 HB.out)
   clear HO_7
   clear HO_8
   clear HB
   have HO_7 := n0_
   have HO_8 := n1_
   have HB := n2_
   clear n0_ n1_ n2_
   have p605 : 0 ≤ (x9_1 : Int) := of_decide_eq_true (by first | (with_reducible assumption) | assumption)
   have q605 : x9_1 < (l0.length : Int) := of_decide_eq_true (by first | (with_reducible assumption) | assumption)
   obtain ⟨ad605, e605, hx605_0⟩ := Kd.at_string HR0.out x9_1 p605 q605
   have hw605_0 := hx605_0
   cases e605
   replace hx605_0 := (HB.out.cell (World.block_lt_of_cell? w _ hx605_0)).trans hx605_0
   replace p605 := eq_true p605
   replace q605 := eq_true q605
   obtain ⟨Ao16, co16, eo16⟩ := Kd.R_slice HO_8.out
   (first | subst eo16 | (injection eo16 with f1_ f2_ f3_; have f4_ := f1_.symm; have f5_ := f3_.symm; clear f1_ f2_ f3_; subst f4_; subst f5_))
   have p606 : 0 ≤ (x9_1 : Int) := of_decide_eq_true (by first | (with_reducible assumption) | assumption)
   have q606 : x9_1 < (t602.length : Int) := of_decide_eq_true (by first | (with_reducible assumption) | assumption)
   obtain ⟨ad606, e606, hx606_0⟩ := Kd.at_int (Kd.R_reads' HO_8.out).2.2 x9_1 p606 q606
   cases e606
   replace p606 := eq_true p606
   replace q606 := eq_true q606
   refine start_ (n := 15) (S := fun w' => w'.cell? (ad605.add (x9_1).toNat) = some (.string (rdOf ByteArray.empty l0 x9_1)) ∧ w'.cell? (ad606.add (x9_1).toNat) = some (.int .i64 (rd t602 x9_1))) (ds := [12, 13]) (bb_ 15 0) (by kernel_rfl) rfl rfl ⟨((HB.out.cell (World.block_lt_of_cell? w _ hw605_0)).trans hw605_0), hx606_0⟩ (fun hHeld => ?_); refine with_tabW spec_OnceSign.tab8 spec_OnceSign.bits8 (fun HT_ HW_ => ?_)
   generalize wr.drew = w15 at HO_7 HO_8 HB hx605_0 hx606_0 hHeld ⊢
   refine pS_ 0 21 (bb_ 15 1) HT_.out ?_
   refine pS_ 1 22 (bb_ 15 3) HT_.out ?_
   refine pS_ 2 23 (bb_ 15 7) HT_.out ?_
   refine pS_ 3 24 (bb_ 15 15) HT_.out ?_
   refine pS_ 5 26 (bb_ 15 47) HT_.out ?_
   refine pS_ 6 27 (bb_ 15 111) HT_.out ?_
   refine pS_ 7 28 (bb_ 15 239) HT_.out ?_
   refine pS_ 8 29 (bb_ 15 495) HT_.out ?_
   refine pS_ 9 30 (bb_ 15 1007) HT_.out ?_
   refine tS_ 4 25 (bb_ 15 1023) (take_ofW HT_.out HW_.out (by kernel_rfl)) hHeld ?_
   refine tS_ 10 31 (bb_ 15 2047) (take_ofW HT_.out HW_.out (by kernel_rfl)) hHeld ?_
   refine one_ (i := 11) (N := some 32) (bb_ 15 4095) rfl rfl (one_of HT_.out (by kernel_rfl)) (by decide) (fun K hK => ?_)
   refine goes_ Tryd.func71 (by kernel_rfl) rfl #[.string (rdOf ByteArray.empty l0 x9_1), .int .i64 a1, .int .i64 x9_1, .int .i64 0, .int .i64 (rd t602 x9_1)] (by rfl) rfl rfl aM_ ?_
   with_reducible refine (spec_ChainOf.calls k1 (rdOf ByteArray.empty l0 x9_1) a1 x9_1 0 (rd t602 x9_1) t607 _ A13.out).mono ?_
   rintro e w17 ⟨rfl, hb⟩
   have HS1_ := (hb.cell (World.block_lt_of_cell? _ _ (hHeld.2))).trans (hHeld.2)
   refine ⟨_, rfl, ?_⟩
   have n0_ := Aside0.mk (Kd.R_below (rR_ HO_7.out) hb)
   have n1_ := Aside0.mk (Kd.R_below (rR_ HO_8.out) hb)
   have n2_ := Aside0.mk (below_step (hB_) hb)
   clear HO_7
   clear HO_8
   clear HB
   have HO_7 := n0_
   have HO_8 := n1_
   have HB := n2_
   clear n0_ n1_ n2_
   (try clear hb)
   (try clear hb2)
   (try clear hk)
   (try clear hi)
   refine hK.out _ _ ⟨((HB.out.cell (World.block_lt_of_cell? w _ hw605_0)).trans hw605_0), HS1_⟩ (fun hHeld => ?_)
   clear hK K
   refine norm_ (a' := ?_) ?_ ?_
   rotate_left
   ·show Act.put _ (some 32) _ = _
    simp only [Act.put, List.setIfInBounds_toArray, List.set_cons_zero, List.set_cons_succ, i64_w, i32_w]
    rfl
   refine last_ (i := 12) (N := some 33) (bb_ 15 8191) rfl rfl (one_of HT_.out (by kernel_rfl)) (by decide) (fun K hK => ?_)
   refine value_ (w1 := ?_) (v := ?_) (by rfl) rfl ?_ ?_
   rotate_left 2
   ·go_simp
    constructor
    ·rfl
    ·rfl
   refine hK.out _ _ ?_
   clear hK K
   refine norm_ (a' := ?_) ?_ ?_
   rotate_left
   ·show Act.put _ (some 33) _ = _
    simp only [Act.put, List.setIfInBounds_toArray, List.set_cons_zero, List.set_cons_succ, i64_w, i32_w]
    rfl
   refine last_ (i := 13) (N := some 34) (bb_ 15 16383) rfl rfl (one_of HT_.out (by kernel_rfl)) (by decide) (fun K hK => ?_)
   refine Kd.R_append_step Kd.string (w0 := w) w.heap.size (by rfl) (.tmp 21) (.tmp 33) 25 9 (.string ⟨#[]⟩) 16 rfl Tryd.underlying25 info9 rfl (by decide) (by omega) u7 x7_1 t607 [.string t607] (fun _ => True) (fun _ => False) rfl rfl ?aP (fun _ hk => hk.elim) ?aF ?aO ?aB ?aS ?aL ?_
   (case aP => exact rfl)
   (case aB => exact (hB_))
   (case aF => exact (fun _ _ => trivial))
   (case aO => exact (rR_ HO_7.out))
   (case aS => exact (below_size (hB_)))
   (case aL => have := LMc14.out; omega)
   intro v609 w18 ho hb hg hat
   rw [← Ny608.out] at ho
   have n0_ := Aside0.mk (Kd.R_over' (rR_ HO_8.out) (Kd.R_typed (rR_ HO_7.out)) (by decide) hg)
   have n1_ := Aside0.mk (hb)
   have n2_ := Aside0.mk (ho)
   clear HO_8
   clear HB
   clear HO_7
   have HO_8 := n0_
   have HB := n1_
   have HO610 := n2_
   clear n0_ n1_ n2_
   clear ho hb hg hat
   refine hK.out _ _ ?_
   clear hK K
   refine norm_ (a' := ?_) ?_ ?_
   rotate_left
   ·show Act.put _ (some 34) _ = _
    simp only [Act.put, List.setIfInBounds_toArray, List.set_cons_zero, List.set_cons_succ, i64_w, i32_w]
    rfl
   refine pS_ 14 7 (bb_ 15 32767) HT_.out ?_
   refine done_ (done_of HT_.out (by kernel_rfl)) ?_
   try go_wp2
   go_roundg k1
   case measure => have := HK1.out; omega
   case rel => exact ⟨(y608), (wrap64 (x9_1 + 1)), (by first | rfl | (simp; done) | (simp [*]; done)), H', ⟨by have := HK1.out; omega⟩, ⟨rR_ HO610.out⟩, ⟨rR_ HO_8.out⟩, ⟨hB_⟩⟩

/-! ### spec_PathOf: function 88 -/
mutual
def spec_PathOf.j0 : Nat → List ByteArray → Int → List ByteArray → Bool → Option (List ByteArray)
 | 0, _, _, _, _ => none
 | k + 1, x0, x1, x5, x16 => if x16 = true then (some x5) else (spec_PathOf.l0 k x0 x1 x5 1)
def spec_PathOf.l0 : Nat → List ByteArray → Int → List ByteArray → Int → Option (List ByteArray)
 | 0, _, _, _, _ => none
 | k + 1, x0, x1, x5, x6 => if x6 ≤ 2 then (if (Int.tmod x1 2) = 1 then (if 0 ≤ (wrap64 (x1 - 1)) then (if (wrap64 (x1 - 1)) < (x0.length : Int) then (if x5.length < 8796093022208 then ((spec_LevelUp.f k x6 x0).bind fun t628 => (spec_PathOf.l0 k t628 (wrap64 (Int.tdiv x1 2)) (x5 ++ [rdOf ByteArray.empty x0 (wrap64 (x1 - 1))]) (wrap64 (x6 + 1)))) else (none)) else (none)) else (none)) else (if 0 ≤ (wrap64 (x1 + 1)) then (if (wrap64 (x1 + 1)) < (x0.length : Int) then (if x5.length < 8796093022208 then ((spec_LevelUp.f k x6 x0).bind fun t635 => (spec_PathOf.l0 k t635 (wrap64 (Int.tdiv x1 2)) (x5 ++ [rdOf ByteArray.empty x0 (wrap64 (x1 + 1))]) (wrap64 (x6 + 1)))) else (none)) else (none)) else (none))) else (some x5)
end
def spec_PathOf.f (k : Nat) (l0 : List ByteArray) (a1 : Int) : Option (List ByteArray) := (some (([] : List ByteArray) : List ByteArray)).bind fun y620 => (if (l0.length : Int) = 4 then ((spec_l01In.f a1 0 3).bind fun t623 => (spec_PathOf.j0 k l0 a1 y620 (!t623))) else (spec_PathOf.j0 k l0 a1 y620 true))
theorem spec_PathOf.mono_l : ∀ k, (∀ y0 y1 y2 y3, LeO (spec_PathOf.j0 k y0 y1 y2 y3) (spec_PathOf.j0 (k + 1) y0 y1 y2 y3)) ∧ (∀ y0 y1 y2 y3, LeO (spec_PathOf.l0 k y0 y1 y2 y3) (spec_PathOf.l0 (k + 1) y0 y1 y2 y3))
 | 0 => ⟨fun _ _ _ _ r h => by simp [spec_PathOf.j0] at h, fun _ _ _ _ r h => by simp [spec_PathOf.l0] at h⟩
 | k + 1 => by
  obtain ⟨ih0, ih1⟩ := spec_PathOf.mono_l k
  refine ⟨?_, ?_⟩
  ·intro y0 y1 y2 y3
   unfold spec_PathOf.j0
   repeat' first
   | (with_reducible exact ih0 _ _ _ _)
   | (with_reducible exact ih1 _ _ _ _)
   | (with_reducible exact spec_LevelUp.mono _ _ _)
   | (with_reducible exact LeO.refl _)
   | (with_reducible exact LeO.none _)
   | (with_reducible refine LeO.ite ?_ ?_)
   | (with_reducible refine LeO.bind ?_ (fun _ => ?_))
   | exact ih0 _ _ _ _
   | exact ih1 _ _ _ _
   | exact spec_LevelUp.mono _ _ _
   | exact LeO.none _
   | refine LeO.ite ?_ ?_
   | refine LeO.bind ?_ (fun _ => ?_)
  ·intro y0 y1 y2 y3
   unfold spec_PathOf.l0
   repeat' first
   | (with_reducible exact ih0 _ _ _ _)
   | (with_reducible exact ih1 _ _ _ _)
   | (with_reducible exact spec_LevelUp.mono _ _ _)
   | (with_reducible exact LeO.refl _)
   | (with_reducible exact LeO.none _)
   | (with_reducible refine LeO.ite ?_ ?_)
   | (with_reducible refine LeO.bind ?_ (fun _ => ?_))
   | exact ih0 _ _ _ _
   | exact ih1 _ _ _ _
   | exact spec_LevelUp.mono _ _ _
   | exact LeO.none _
   | refine LeO.ite ?_ ?_
   | refine LeO.bind ?_ (fun _ => ?_)
theorem spec_PathOf.mono : ∀ a0 a1 k, LeO (spec_PathOf.f k a0 a1) (spec_PathOf.f (k + 1) a0 a1) := by
 intro a0 a1 k
 obtain ⟨ih0, ih1⟩ := spec_PathOf.mono_l k
 unfold spec_PathOf.f
 repeat' first
   | (with_reducible exact ih0 _ _ _ _)
   | (with_reducible exact ih1 _ _ _ _)
   | (with_reducible exact spec_LevelUp.mono _ _ _)
   | (with_reducible exact LeO.refl _)
   | (with_reducible exact LeO.none _)
   | (with_reducible refine LeO.ite ?_ ?_)
   | (with_reducible refine LeO.bind ?_ (fun _ => ?_))
   | exact ih0 _ _ _ _
   | exact ih1 _ _ _ _
   | exact spec_LevelUp.mono _ _ _
   | exact LeO.none _
   | refine LeO.ite ?_ ?_
   | refine LeO.bind ?_ (fun _ => ?_)
theorem spec_PathOf.calls (k : Nat) (P0_ : Nat → Prop) (A0 : Option Addr) (c0 : Nat) (l0 : List ByteArray) (a1 : Int) (r : List ByteArray) (w : World) (hs0 : Kd.V Kd.string 9 w w.heap.size (fun k_ => P0_ k_) (.slice A0 l0.length c0) l0) (h : spec_PathOf.f k l0 a1 = some r) :
  Calls Tryd.prog 88 #[.slice A0 l0.length c0, .int .i64 a1] w fun e w' => ∃ v0_ : Value, e = .returned (v0_) ∧ Kd.R Kd.string 9 w' w.heap.size (fun k_ => (w.heap.size ≤ k_)) v0_ r ∧ Below w.heap.size w w' := by
 have HO0 := Aside0.mk (show Kd.V Kd.string 9 w w.heap.size (fun k_ => (P0_ k_ ∨ w.heap.size ≤ k_)) (.slice A0 l0.length c0) l0 from Kd.V_mono hs0 (fun k_ hk => .inl hk))
 have HB := Aside0.mk (Below.refl w.heap.size w)
 have H : ((some (([] : List ByteArray) : List ByteArray)).bind fun y620 => (if (l0.length : Int) = 4 then ((spec_l01In.f a1 0 3).bind fun t623 => (spec_PathOf.j0 k l0 a1 y620 (!t623))) else (spec_PathOf.j0 k l0 a1 y620 true))) = some r := h
 clear h
 obtain ⟨y620, hy620⟩ : ∃ y_ : List ByteArray, y_ = (([] : List ByteArray)) := ⟨_, rfl⟩
 replace H : (if (l0.length : Int) = 4 then ((spec_l01In.f a1 0 3).bind fun t623 => (spec_PathOf.j0 k l0 a1 y620 (!t623))) else (spec_PathOf.j0 k l0 a1 y620 true)) = some r := by first | (rw [hy620]; with_reducible exact H) | (have H2_ := (Option.bind_some _ _).symm.trans H; rw [hy620]; with_reducible exact H2_) | (have H2_ := (Option.bind_some _ _).symm.trans H; with_reducible exact H2_) | with_reducible exact H | (rw [hy620]; exact H) | exact H
 have Ny620 := Aside0.mk hy620
 clear hy620
 have HC3 := Aside0.mk H
 clear H
 go_enter Tryd.func88, Tryd.ntmps88
 go_upto_region 2 with (first | ((with_reducible refine gate_dst (N := 8) rfl ?_); refine Kd.R_lit Kd.string _ 9 ?hg (N := 8) ?hd (xs := ([] : List ByteArray)) (inner := []) (ok := fun _ => True) (okp := fun _ => True) ?hr ?hp (fun _ hk => hk) trivial (Below.refl _ _) (Nat.le_refl _) (by simp) ?_; (case hd => rfl); (case hg => rfl); (case hr => first | (go_simp; done) | (go_simp; rfl)); (case hp => exact (Reps.none _ _)); intro v621 w4 ho5 hb hg_ hnew_; clear hg_ hnew_; (first | rw [← Ny620.out] at ho5 | (simp only [Int.reduceToNat] at ho5; rw [← Ny620.out] at ho5)); have n0_ := Aside0.mk (Kd.V_elder' (rV_ HO0.out) (Kd.R_base ho5) hb); have n1_ := Aside0.mk (Kd.R_lower (Kd.R_newM (M := fun k_ => (w.heap.size ≤ k_)) ho5 (below_size (hB_)) (fun k_ h_ => h_)) (below_size (hB_))); have n2_ := Aside0.mk (below_step (hB_) hb); replace HO0 := n0_; have HO622 := n1_; replace HB := n2_; clear n0_ n1_ n2_; clear hb ho5))
 (try simp only [Act.put, List.setIfInBounds_toArray, List.set_cons_zero, List.set_cons_succ])
 go_cut [16] (fun v16 wc => ∃ (kq : Nat) (x16_2 : Bool), v16 = .bool x16_2 ∧ Aside0 (spec_PathOf.j0 kq l0 a1 y620 x16_2 = some r) ∧ Aside0 (kq ≤ k) ∧ Aside0 (Kd.V Kd.string 9 wc w.heap.size (fun k_ => (P0_ k_ ∨ w.heap.size ≤ k_) ∧ some k_ ≠ (v621 : Value).ownBlock) (.slice A0 l0.length c0) l0) ∧ Aside0 (Kd.R Kd.string 9 wc w.heap.size (fun k_ => (w.heap.size ≤ k_)) v621 y620) ∧ Aside0 (Below w.heap.size w wc))
 case first =>
  have H := HC3.out
  clear HC3
  by_cases c6 : (l0.length : Int) = 4
  ·rw [if_pos c6] at H
   have c6b0 : ((l0.length : Int) == 4) = true := beq_iff_eq.mpr c6
   have c6b1 : ((l0.length : Int) != 4) = false := bne_eq_false_iff_eq.mpr c6
   clear c6
   (first | rw [c6b0] | (simp only [i64_w, i32_w]; rw [c6b0]) | skip)
   replace H := Option.bind_eq_some_iff.mp H
   obtain ⟨t623, A70, H⟩ := H
   try dsimp -simprocs only at H
   have A7 := Aside0.mk A70
   clear A70
   have H' := Aside0.mk H
   clear H
   go_wp2_with (first | (go_at_call 62; (with_reducible refine (spec_l01In.calls a1 0 3 t623 _ A7.out).mono ?_); rintro e w' ⟨rfl, ⟨nd, rfl⟩⟩))
   go_meet
   case rel => exact ⟨_, (!t623), (by first | rfl | (simp; done) | (simp [*]; done)), H', ⟨by first | omega | exact Nat.le_refl _⟩, ⟨rV_ HO0.out⟩, ⟨by refine kR_ ?_; exact Kd.R_mono HO622.out (fun _ hk => hk.1)⟩, ⟨hB_⟩⟩
  rw [if_neg c6] at H
  have c6b0 : ((l0.length : Int) == 4) = false := beq_eq_false_iff_ne.mpr c6
  have c6b1 : ((l0.length : Int) != 4) = true := bne_iff_ne.mpr c6
  (first | rw [c6b0] | (simp only [i64_w, i32_w]; rw [c6b0]) | skip)
  have H' := Aside0.mk H
  clear H
  go_wp2
  go_meet
  case rel => exact ⟨_, (true), (by first | rfl | (simp; done) | (simp [*]; done)), H', ⟨by first | omega | exact Nat.le_refl _⟩, ⟨rV_ HO0.out⟩, ⟨by refine kR_ ?_; exact Kd.R_mono HO622.out (fun _ hk => hk.1)⟩, ⟨hB_⟩⟩
 case rest =>
  clear HC3
  try clear p2
  try clear c6
  try clear c6b0
  try clear c6b1
  obtain ⟨kq, x16_2, rfl, HA, HJ2, HO_0, HO_5, HB⟩ := hcut
  cases kq with
  | zero => exact absurd HA.out (by simp [spec_PathOf.j0])
  | succ kj2 =>
   have H := HA.out
   clear HA
   simp only [spec_PathOf.j0] at H
   by_cases c8 : x16_2 = true
   ·subst c8
    have H1 : (some y620) = some r := by rw [if_pos rfl] at H; exact H
    clear H
    have H := H1
    clear H1
    obtain rfl := Option.some.inj H
    go_wp2
    go_ret
    exact ⟨_, by first | rfl | (simp [errW_none, errW_some] <;> rfl) | (simp [*, errW_none, errW_some] <;> rfl), rR_ HO_5.out, hB_⟩
   ·replace c8 := Bool.eq_false_iff.mpr c8
    subst c8
    have H1 : (spec_PathOf.l0 kj2 l0 a1 y620 1) = some r := by rw [if_neg (show ¬ (false = true) by decide)] at H; exact H
    clear H
    have H := H1
    clear H1
    have H' := Aside0.mk H
    clear H
    go_wp2
    go_loopg [0, 1, 5, 6] kj2 (fun kq v0 v1 v5 v6 w' => ∃ (x0_2 : List ByteArray) (x1_2 : Int) (x5_2 : List ByteArray) (x6_2 : Int), v1 = .int .i64 x1_2 ∧ v6 = .int .i64 x6_2 ∧ Aside0 (spec_PathOf.l0 kq x0_2 x1_2 x5_2 x6_2 = some r) ∧ Aside0 (kq ≤ kj2) ∧ Aside0 (Kd.V Kd.string 9 w' w.heap.size (fun k_ => (P0_ k_ ∨ w.heap.size ≤ k_) ∧ some k_ ≠ (v5 : Value).ownBlock) v0 x0_2) ∧ Aside0 (Kd.R Kd.string 9 w' w.heap.size (fun k_ => (w.heap.size ≤ k_)) v5 x5_2) ∧ Aside0 (Below w.heap.size w w'))
    case atStart => exact ⟨(l0), (a1), (y620), (1), (by first | rfl | (simp; done) | (simp [*]; done)), (by first | rfl | (simp; done) | (simp [*]; done)), H', ⟨Nat.le_refl _⟩, ⟨rV_ HO_0.out⟩, ⟨rR_ HO_5.out⟩, ⟨hB_⟩⟩
    case round =>
     clear H'
     try clear p2
     try clear c6
     try clear c6b0
     try clear c6b1
     try clear c8
     try clear p2
     obtain ⟨x0_2, x1_2, x5_2, x6_2, rfl, rfl, HA, HK2, HO_0, HO_5, HB⟩ := hrel
     cases gk with
     | zero => exact absurd HA.out (by simp [spec_PathOf.l0])
     | succ k2 =>
      have H := HA.out
      clear HA
      simp only [spec_PathOf.l0] at H
      by_cases c9 : x6_2 ≤ 2
      rotate_left
      ·rw [if_neg c9] at H
       have c9b0 := decide_eq_false c9
       clear c9
       obtain rfl := Option.some.inj H
       go_wp2
       go_ret
       exact ⟨_, by first | rfl | (simp [errW_none, errW_some] <;> rfl) | (simp [*, errW_none, errW_some] <;> rfl), rR_ HO_5.out, hB_⟩
      rw [if_pos c9] at H
      have c9b0 := decide_eq_true c9
      clear c9
      by_cases c10 : (Int.tmod x1_2 2) = 1
      ·rw [if_pos c10] at H
       have c10b0 : ((Int.tmod x1_2 2) == 1) = true := beq_iff_eq.mpr c10
       have c10b1 : ((Int.tmod x1_2 2) != 1) = false := bne_eq_false_iff_eq.mpr c10
       clear c10
       obtain ⟨ji11, hji11⟩ : ∃ j_ : Int, (wrap64 (x1_2 - 1)) = j_ := ⟨_, rfl⟩
       first | rw [hji11] at H | simp only [hji11] at H
       have hji11w : (IntKind.i64.wrap (x1_2 - 1)) = ji11 := (i64_w _).trans hji11
       obtain ⟨c12, H⟩ := iN_ H
       have c12b0 := decide_eq_true c12
       clear c12
       obtain ⟨c13, H⟩ := iN_ H
       have c13b0 := decide_eq_true c13
       clear c13
       obtain ⟨c14, H⟩ := iN_ H
       have LMc14 := Aside0.mk c14
       clear c14
       obtain ⟨y625, hy625⟩ : ∃ y_ : List ByteArray, y_ = (x5_2 ++ [rdOf ByteArray.empty x0_2 (ji11)]) := ⟨_, rfl⟩
       replace H : ((spec_LevelUp.f k2 x6_2 x0_2).bind fun t628 => (spec_PathOf.l0 k2 t628 (wrap64 (Int.tdiv x1_2 2)) y625 (wrap64 (x6_2 + 1)))) = some r := by first | (rw [hy625]; with_reducible exact H) | (have H2_ := (Option.bind_some _ _).symm.trans H; rw [hy625]; with_reducible exact H2_) | (have H2_ := (Option.bind_some _ _).symm.trans H; with_reducible exact H2_) | with_reducible exact H | (rw [hy625]; exact H) | exact H
       have Ny625 := Aside0.mk hy625
       clear hy625
       replace H := Option.bind_eq_some_iff.mp H
       obtain ⟨t628, A150, H⟩ := H
       try dsimp -simprocs only at H
       have A15 := Aside0.mk A150
       clear A150
       have H' := Aside0.mk H
       clear H
       obtain ⟨Ao16, co16, eo16⟩ := Kd.V_slice HO_0.out
       subst eo16
       have p624 : 0 ≤ ((ji11) : Int) := of_decide_eq_true (by first | (with_reducible assumption) | assumption)
       have q624 : (ji11) < (x0_2.length : Int) := of_decide_eq_true (by first | (with_reducible assumption) | assumption)
       obtain ⟨ad624, e624, hx624_0⟩ := Kd.at_string (Kd.V_reads' HO_0.out).2.2 (ji11) p624 q624
       cases e624
       replace p624 := eq_true p624
       replace q624 := eq_true q624
       go_wp2_with (first | ((with_reducible refine gate_builtin (b := .append) (xs := #[.tmp 29, .tmp 34]) rfl ?_); at_builtin; refine Kd.R_append Kd.string (w0 := w) w.heap.size rfl (.tmp 29) (.tmp 34) 25 9 (.string ⟨#[]⟩) 16 rfl Tryd.underlying25 info9 rfl (by decide) (by omega) u5 x5_2 (rdOf ByteArray.empty x0_2 (ji11)) [.string (rdOf ByteArray.empty x0_2 (ji11))] (fun k_ => (w.heap.size ≤ k_)) (fun _ => False) rfl rfl ?aP (fun _ hk => hk.elim) ?aF ?aO ?aB ?aS ?aL ?_; (case aP => exact rfl); (case aB => exact (hB_)); (case aF => exact (fun k_ hk => (Nat.le_trans (below_size (hB_)) hk))); (case aO => exact (rR_ HO_5.out)); (case aS => exact (below_size (hB_))); (case aL => have := LMc14.out; omega); intro v626 w17 ho hb hg hat; rw [← Ny625.out] at ho; have n0_ := Aside0.mk (Kd.V_afterv (ok := (fun k_ => (P0_ k_ ∨ w.heap.size ≤ k_))) (rV_ HO_0.out) hg hat); have n1_ := Aside0.mk (hb); have n2_ := Aside0.mk (ho); clear HO_5; replace HO_0 := n0_; replace HB := n1_; have HO627 := n2_; clear n0_ n1_ n2_; clear ho hb hg hat) | ((with_reducible refine gate_callee (f := 116) rfl ?_); refine goesL_ (some 38) rfl rfl Tryd.func116 (by kernel_rfl) rfl #[.int .i64 x6_2, .slice (some ad624) x0_2.length co16] rfl aM_ ?_; (with_reducible refine (spec_LevelUp.calls k2 x6_2 _ _ x0_2 t628 _ ?side1 ?side2 A15.out).mono ?_); (case side1 => exact cR_ (Kd.V_reads' HO_0.out).2.2); (case side2 => exact (Kd.V_reads' HO_0.out).2.1); rintro e w18 ⟨v629, rfl, ho0, hb⟩; refine ⟨_, rfl, ?_⟩; have n0_ := Aside0.mk (Kd.V_elder' (rV_ HO_0.out) (Kd.R_base ho0) hb); have n1_ := Aside0.mk (Kd.R_elder' (rR_ HO627.out) (Kd.R_base ho0) hb); have n2_ := Aside0.mk (Kd.R_lower (Kd.R_new' (Kd.R_newM (M := fun k_ => (w.heap.size ≤ k_)) ho0 (below_size (hB_)) (fun k_ h_ => h_)) (Kd.R_lt (rR_ HO627.out))) (below_size (hB_))); have n3_ := Aside0.mk (below_step (hB_) hb); replace HO_0 := n0_; replace HO627 := n1_; have HO630 := n2_; replace HB := n3_; clear n0_ n1_ n2_ n3_; (try clear hb); (try clear ho0)))
       go_roundg k2
       case measure => have := HJ2.out; have := HK2.out; omega
       case rel => exact ⟨(t628), (wrap64 (Int.tdiv x1_2 2)), (y625), (wrap64 (x6_2 + 1)), (by first | rfl | (simp; done) | (simp [*]; done)), (by first | rfl | (simp; done) | (simp [*]; done)), H', ⟨by have := HJ2.out; have := HK2.out; omega⟩, ⟨by first | exact Kd.V_mono (Kd.R_V HO630.out) (fun k_ hk => ⟨.inr hk.1.1, hk.2⟩) | exact Kd.V_mono (Kd.R_V (Kd.R_drewN HO630.out _)) (fun k_ hk => ⟨.inr hk.1.1, hk.2⟩) | exact Kd.V_mono (Kd.R_V (Kd.R_drew HO630.out)) (fun k_ hk => ⟨.inr hk.1.1, hk.2⟩)⟩, ⟨by refine kR_ ?_; exact Kd.R_mono HO627.out (fun _ hk => hk.1)⟩, ⟨hB_⟩⟩
      rw [if_neg c10] at H
      have c10b0 : ((Int.tmod x1_2 2) == 1) = false := beq_eq_false_iff_ne.mpr c10
      have c10b1 : ((Int.tmod x1_2 2) != 1) = true := bne_iff_ne.mpr c10
      obtain ⟨ji19, hji19⟩ : ∃ j_ : Int, (wrap64 (x1_2 + 1)) = j_ := ⟨_, rfl⟩
      first | rw [hji19] at H | simp only [hji19] at H
      have hji19w : (IntKind.i64.wrap (x1_2 + 1)) = ji19 := (i64_w _).trans hji19
      obtain ⟨c20, H⟩ := iN_ H
      have c20b0 := decide_eq_true c20
      clear c20
      obtain ⟨c21, H⟩ := iN_ H
      have c21b0 := decide_eq_true c21
      clear c21
      obtain ⟨c22, H⟩ := iN_ H
      have LMc22 := Aside0.mk c22
      clear c22
      obtain ⟨y632, hy632⟩ : ∃ y_ : List ByteArray, y_ = (x5_2 ++ [rdOf ByteArray.empty x0_2 (ji19)]) := ⟨_, rfl⟩
      replace H : ((spec_LevelUp.f k2 x6_2 x0_2).bind fun t635 => (spec_PathOf.l0 k2 t635 (wrap64 (Int.tdiv x1_2 2)) y632 (wrap64 (x6_2 + 1)))) = some r := by first | (rw [hy632]; with_reducible exact H) | (have H2_ := (Option.bind_some _ _).symm.trans H; rw [hy632]; with_reducible exact H2_) | (have H2_ := (Option.bind_some _ _).symm.trans H; with_reducible exact H2_) | with_reducible exact H | (rw [hy632]; exact H) | exact H
      have Ny632 := Aside0.mk hy632
      clear hy632
      replace H := Option.bind_eq_some_iff.mp H
      obtain ⟨t635, A230, H⟩ := H
      try dsimp -simprocs only at H
      have A23 := Aside0.mk A230
      clear A230
      have H' := Aside0.mk H
      clear H
      obtain ⟨Ao24, co24, eo24⟩ := Kd.V_slice HO_0.out
      subst eo24
      have p631 : 0 ≤ ((ji19) : Int) := of_decide_eq_true (by first | (with_reducible assumption) | assumption)
      have q631 : (ji19) < (x0_2.length : Int) := of_decide_eq_true (by first | (with_reducible assumption) | assumption)
      obtain ⟨ad631, e631, hx631_0⟩ := Kd.at_string (Kd.V_reads' HO_0.out).2.2 (ji19) p631 q631
      cases e631
      replace p631 := eq_true p631
      replace q631 := eq_true q631
      go_wp2_with (first | ((with_reducible refine gate_builtin (b := .append) (xs := #[.tmp 29, .tmp 34]) rfl ?_); at_builtin; refine Kd.R_append Kd.string (w0 := w) w.heap.size rfl (.tmp 29) (.tmp 34) 25 9 (.string ⟨#[]⟩) 16 rfl Tryd.underlying25 info9 rfl (by decide) (by omega) u5 x5_2 (rdOf ByteArray.empty x0_2 (ji19)) [.string (rdOf ByteArray.empty x0_2 (ji19))] (fun k_ => (w.heap.size ≤ k_)) (fun _ => False) rfl rfl ?aP (fun _ hk => hk.elim) ?aF ?aO ?aB ?aS ?aL ?_; (case aP => exact rfl); (case aB => exact (hB_)); (case aF => exact (fun k_ hk => (Nat.le_trans (below_size (hB_)) hk))); (case aO => exact (rR_ HO_5.out)); (case aS => exact (below_size (hB_))); (case aL => have := LMc22.out; omega); intro v633 w25 ho hb hg hat; rw [← Ny632.out] at ho; have n0_ := Aside0.mk (Kd.V_afterv (ok := (fun k_ => (P0_ k_ ∨ w.heap.size ≤ k_))) (rV_ HO_0.out) hg hat); have n1_ := Aside0.mk (hb); have n2_ := Aside0.mk (ho); clear HO_5; replace HO_0 := n0_; replace HB := n1_; have HO634 := n2_; clear n0_ n1_ n2_; clear ho hb hg hat) | ((with_reducible refine gate_callee (f := 116) rfl ?_); refine goesL_ (some 38) rfl rfl Tryd.func116 (by kernel_rfl) rfl #[.int .i64 x6_2, .slice (some ad631) x0_2.length co24] rfl aM_ ?_; (with_reducible refine (spec_LevelUp.calls k2 x6_2 _ _ x0_2 t635 _ ?side1 ?side2 A23.out).mono ?_); (case side1 => exact cR_ (Kd.V_reads' HO_0.out).2.2); (case side2 => exact (Kd.V_reads' HO_0.out).2.1); rintro e w26 ⟨v636, rfl, ho0, hb⟩; refine ⟨_, rfl, ?_⟩; have n0_ := Aside0.mk (Kd.V_elder' (rV_ HO_0.out) (Kd.R_base ho0) hb); have n1_ := Aside0.mk (Kd.R_elder' (rR_ HO634.out) (Kd.R_base ho0) hb); have n2_ := Aside0.mk (Kd.R_lower (Kd.R_new' (Kd.R_newM (M := fun k_ => (w.heap.size ≤ k_)) ho0 (below_size (hB_)) (fun k_ h_ => h_)) (Kd.R_lt (rR_ HO634.out))) (below_size (hB_))); have n3_ := Aside0.mk (below_step (hB_) hb); replace HO_0 := n0_; replace HO634 := n1_; have HO637 := n2_; replace HB := n3_; clear n0_ n1_ n2_ n3_; (try clear hb); (try clear ho0)))
      go_roundg k2
      case measure => have := HJ2.out; have := HK2.out; omega
      case rel => exact ⟨(t635), (wrap64 (Int.tdiv x1_2 2)), (y632), (wrap64 (x6_2 + 1)), (by first | rfl | (simp; done) | (simp [*]; done)), (by first | rfl | (simp; done) | (simp [*]; done)), H', ⟨by have := HJ2.out; have := HK2.out; omega⟩, ⟨by first | exact Kd.V_mono (Kd.R_V HO637.out) (fun k_ hk => ⟨.inr hk.1.1, hk.2⟩) | exact Kd.V_mono (Kd.R_V (Kd.R_drewN HO637.out _)) (fun k_ hk => ⟨.inr hk.1.1, hk.2⟩) | exact Kd.V_mono (Kd.R_V (Kd.R_drew HO637.out)) (fun k_ hk => ⟨.inr hk.1.1, hk.2⟩)⟩, ⟨by refine kR_ ?_; exact Kd.R_mono HO634.out (fun _ hk => hk.1)⟩, ⟨hB_⟩⟩

/-! ### spec_SignAt: function 38 -/
def spec_SignAt.f (k : Nat) (a0 : ByteArray) (a1 : Int) (a2 : ByteArray) : Option (Int × List ByteArray × List ByteArray × Bool) := (spec_l01In.f a1 0 3).bind fun t649 => (if t649 = true then ((spec_OnceKey.f k a0 a1).bind fun t650 => ((spec_OnceSign.f k t650 a1 a2).bind fun t653 => ((spec_l16Leaves.f k a0).bind fun t656 => ((spec_PathOf.f k t656 a1).bind fun t659 => (some (a1, t653, t659, true)))))) else (some (0, ([] : List ByteArray), ([] : List ByteArray), false)))
theorem spec_SignAt.mono : ∀ a0 a1 a2 k, LeO (spec_SignAt.f k a0 a1 a2) (spec_SignAt.f (k + 1) a0 a1 a2) := by
 intro a0 a1 a2 k
 unfold spec_SignAt.f
 repeat' first
   | (with_reducible exact spec_OnceKey.mono _ _ _)
   | (with_reducible exact spec_OnceSign.mono _ _ _ _)
   | (with_reducible exact spec_PathOf.mono _ _ _)
   | (with_reducible exact spec_l16Leaves.mono _ _)
   | (with_reducible exact LeO.refl _)
   | (with_reducible exact LeO.none _)
   | (with_reducible refine LeO.ite ?_ ?_)
   | (with_reducible refine LeO.bind ?_ (fun _ => ?_))
   | exact spec_OnceKey.mono _ _ _
   | exact spec_OnceSign.mono _ _ _ _
   | exact spec_PathOf.mono _ _ _
   | exact spec_l16Leaves.mono _ _
   | exact LeO.none _
   | refine LeO.ite ?_ ?_
   | refine LeO.bind ?_ (fun _ => ?_)
theorem spec_SignAt.calls (k : Nat) (a0 : ByteArray) (a1 : Int) (a2 : ByteArray) (r1 : Int) (r2 : List ByteArray) (r3 : List ByteArray) (r4 : Bool) (w : World) (h : spec_SignAt.f k a0 a1 a2 = some (r1, r2, r3, r4)) :
  Calls Tryd.prog 38 #[.string a0, .int .i64 a1, .string a2] w fun e w' => ∃ v1_ v2_ : Value, e = .returned (.tuple #[.agg #[.int .i64 r1, v1_, v2_], .bool r4]) ∧ Kd.R Kd.string 9 w' w.heap.size (fun k_ => some k_ ≠ (v2_ : Value).ownBlock) v1_ r2 ∧ Kd.R Kd.string 9 w' w.heap.size (fun k_ => some k_ ≠ (v1_ : Value).ownBlock) v2_ r3 ∧ Below w.heap.size w w' := by
 have hu42 := Tryd.underlying42
 have HB := Aside0.mk (Below.refl w.heap.size w)
 have H : ((spec_l01In.f a1 0 3).bind fun t649 => (if t649 = true then ((spec_OnceKey.f k a0 a1).bind fun t650 => ((spec_OnceSign.f k t650 a1 a2).bind fun t653 => ((spec_l16Leaves.f k a0).bind fun t656 => ((spec_PathOf.f k t656 a1).bind fun t659 => (some (a1, t653, t659, true)))))) else (some (0, ([] : List ByteArray), ([] : List ByteArray), false)))) = some (r1, r2, r3, r4) := h
 clear h
 replace H := Option.bind_eq_some_iff.mp H
 obtain ⟨t649, A40, H⟩ := H
 try dsimp -simprocs only at H
 have A4 := Aside0.mk A40
 clear A40
 by_cases c5 : t649 = true
 ·subst c5
  have H1 : ((spec_OnceKey.f k a0 a1).bind fun t650 => ((spec_OnceSign.f k t650 a1 a2).bind fun t653 => ((spec_l16Leaves.f k a0).bind fun t656 => ((spec_PathOf.f k t656 a1).bind fun t659 => (some (a1, t653, t659, true)))))) = some (r1, r2, r3, r4) := by rw [if_pos rfl] at H; exact H
  clear H
  have H := H1
  clear H1
  replace H := Option.bind_eq_some_iff.mp H
  obtain ⟨t650, A60, H⟩ := H
  try dsimp -simprocs only at H
  have A6 := Aside0.mk A60
  clear A60
  replace H := Option.bind_eq_some_iff.mp H
  obtain ⟨t653, A70, H⟩ := H
  try dsimp -simprocs only at H
  have A7 := Aside0.mk A70
  clear A70
  replace H := Option.bind_eq_some_iff.mp H
  obtain ⟨t656, A80, H⟩ := H
  try dsimp -simprocs only at H
  have A8 := Aside0.mk A80
  clear A80
  replace H := Option.bind_eq_some_iff.mp H
  obtain ⟨t659, A90, H⟩ := H
  try dsimp -simprocs only at H
  have A9 := Aside0.mk A90
  clear A90
  simp only [Option.some.injEq, Prod.mk.injEq] at H
  obtain ⟨rfl, rfl, rfl, rfl⟩ := H
  go_enter Tryd.func38, Tryd.ntmps38
  go_wp2_with (first | ((with_reducible refine gate_dst (N := 6) rfl ?_); refine box_event ?hg (N := 6) ?hd (cs := #[.int .i64 0, .slice none 0 0, .slice none 0 0]) (t := 42) ?hr ?_; (case hd => rfl); (case hg => rfl); (case hr => first | (go_simp; done) | (go_simp; rfl)); intro gb648 hg w10 hbox hb; have n0_ := Aside0.mk (below_step (hB_) hb); have n1_ := Aside0.mk (hbox); have n2_ := Aside0.mk ((by rw [hg]; exact (below_size (hB_)) : w.heap.size ≤ gb648)); have n3_ := Aside0.mk ((by rw [hg]; exact (below_size (hB_)) : w.heap.size ≤ gb648)); replace HB := n0_; have BK648 := n1_; have GW648 := n2_; have GE648 := n3_; clear n0_ n1_ n2_ n3_; clear hb hbox hg) | ((with_reducible refine gate_callee (f := 62) rfl ?_); refine goesL_ (some 9) rfl rfl Tryd.func62 (by kernel_rfl) rfl #[.int .i64 a1, .int .i64 0, .int .i64 3] rfl aM_ ?_; (with_reducible refine (spec_l01In.calls a1 0 3 true _ A4.out).mono ?_); rintro e w' ⟨rfl, ⟨nd, rfl⟩⟩; refine ⟨_, rfl, ?_⟩; (try (rw [drewN_self w10]; generalize hq_ : World.drewN w10 _ = w10; have n0_ : Aside0 (w10.heap[gb648]? = some (.cells #[.int .i64 0, .slice none 0 0, .slice none 0 0] 42 (0, 0))) := ⟨by rw [← hq_]; exact (rK_ BK648.out)⟩; have n1_ : Aside0 (Below w.heap.size w w10) := ⟨by rw [← hq_]; exact (hS_ GE648.out)⟩; clear BK648 HB hq_; have BK648 := n0_; have HB := n1_; clear n0_ n1_))) | ((with_reducible refine gate_callee (f := 27) rfl ?_); refine goesL_ (some 15) rfl rfl Tryd.func27 (by kernel_rfl) rfl #[.string a0, .int .i64 a1] rfl aM_ ?_; (with_reducible refine (spec_OnceKey.calls k a0 a1 t650 _ A6.out).mono ?_); rintro e w11 ⟨v651, rfl, ho0, hb⟩; refine ⟨_, rfl, ?_⟩; have n0_ := Aside0.mk (Kd.R_lower ho0 (below_size (hS_ GE648.out))); have n1_ := Aside0.mk (blk_below (g := gb648) (o := .cells #[.int .i64 0, .slice none 0 0, .slice none 0 0] 42 (0, 0)) (rK_ BK648.out) hb); have n2_ := Aside0.mk (below_step (hS_ GE648.out) hb); have HO652 := n0_; replace BK648 := n1_; replace HB := n2_; clear n0_ n1_ n2_; (try clear hb); (try clear ho0); obtain ⟨Ao12, co12, eo12⟩ := Kd.R_slice HO652.out; subst eo12) | ((with_reducible refine gate_callee (f := 87) rfl ?_); refine goesL_ (some 18) rfl rfl Tryd.func87 (by kernel_rfl) rfl #[.slice Ao12 t650.length co12, .int .i64 a1, .string a2] rfl aM_ ?_; (with_reducible refine (spec_OnceSign.calls k _ _ t650 a1 a2 t653 _ ?side1 ?side2 A7.out).mono ?_); (case side1 => exact cR_ (Kd.R_reads' HO652.out).2.2); (case side2 => exact (Kd.R_reads' HO652.out).2.1); rintro e w13 ⟨v654, rfl, ho0, hb⟩; refine ⟨_, rfl, ?_⟩; have n0_ := Aside0.mk (Kd.R_elder' (rR_ HO652.out) (Kd.R_base ho0) hb); have n1_ := Aside0.mk (Kd.R_lower (Kd.R_new' ho0 (Kd.R_lt (rR_ HO652.out))) (below_size (hS_ GE648.out))); have n2_ := Aside0.mk (blk_below (g := gb648) (o := .cells #[.int .i64 0, .slice none 0 0, .slice none 0 0] 42 (0, 0)) (rK_ BK648.out) hb); have n3_ := Aside0.mk (below_step (hS_ GE648.out) hb); replace HO652 := n0_; have HO655 := n1_; replace BK648 := n2_; replace HB := n3_; clear n0_ n1_ n2_ n3_; (try clear hb); (try clear ho0)) | ((with_reducible refine gate_callee (f := 89) rfl ?_); refine goesL_ (some 20) rfl rfl Tryd.func89 (by kernel_rfl) rfl #[.string a0] rfl aM_ ?_; (with_reducible refine (spec_l16Leaves.calls k a0 t656 _ A8.out).mono ?_); rintro e w14 ⟨v657, rfl, ho0, hb⟩; refine ⟨_, rfl, ?_⟩; have n0_ := Aside0.mk (Kd.R_elder' (rR_ HO652.out) (Kd.R_base ho0) hb); have n1_ := Aside0.mk (Kd.R_elder' (rR_ HO655.out) (Kd.R_base ho0) hb); have n2_ := Aside0.mk (Kd.R_lower (Kd.R_new' (Kd.R_new' ho0 (Kd.R_lt (rR_ HO652.out))) (Kd.R_lt (rR_ HO655.out))) (below_size (hS_ GE648.out))); have n3_ := Aside0.mk (blk_below (g := gb648) (o := .cells #[.int .i64 0, .slice none 0 0, .slice none 0 0] 42 (0, 0)) (rK_ BK648.out) hb); have n4_ := Aside0.mk (below_step (hS_ GE648.out) hb); replace HO652 := n0_; replace HO655 := n1_; have HO658 := n2_; replace BK648 := n3_; replace HB := n4_; clear n0_ n1_ n2_ n3_ n4_; (try clear hb); (try clear ho0); obtain ⟨Ao15, co15, eo15⟩ := Kd.R_slice HO658.out; subst eo15) | ((with_reducible refine gate_callee (f := 88) rfl ?_); refine goesL_ (some 22) rfl rfl Tryd.func88 (by kernel_rfl) rfl #[.slice Ao15 t656.length co15, .int .i64 a1] rfl aM_ ?_; (with_reducible refine (spec_PathOf.calls k (fun k_ => some k_ = (.slice Ao15 t656.length co15 : Value).ownBlock) _ _ t656 a1 t659 _ ?side1 A9.out).mono ?_); (case side1 => exact Kd.R_V (Kd.R_tight rfl (Kd.R_types (HO658.out) BK648.out (by decide)))); rintro e w16 ⟨v660, rfl, ho0, hb⟩; refine ⟨_, rfl, ?_⟩; have n0_ := Aside0.mk (Kd.R_elder' (rR_ HO652.out) (Kd.R_base ho0) hb); have n1_ := Aside0.mk (Kd.R_elder' (rR_ HO655.out) (Kd.R_base ho0) hb); have n2_ := Aside0.mk (Kd.R_elder' (rR_ HO658.out) (Kd.R_base ho0) hb); have n3_ := Aside0.mk (Kd.R_lower (Kd.R_new' (Kd.R_new' (Kd.R_new' (Kd.R_mono (ok' := fun k_ => True) ho0 (fun _ hk_ => trivial)) (Kd.R_lt (rR_ HO652.out))) (Kd.R_lt (rR_ HO655.out))) (Kd.R_lt (rR_ HO658.out))) (below_size (hS_ GE648.out))); have n4_ := Aside0.mk (blk_below (g := gb648) (o := .cells #[.int .i64 0, .slice none 0 0, .slice none 0 0] 42 (0, 0)) (rK_ BK648.out) hb); have n5_ := Aside0.mk (below_step (hS_ GE648.out) hb); replace HO652 := n0_; replace HO655 := n1_; replace HO658 := n2_; have HO661 := n3_; replace BK648 := n4_; replace HB := n5_; clear n0_ n1_ n2_ n3_ n4_ n5_; (try clear hb); (try clear ho0); obtain ⟨Ao17, co17, eo17⟩ := Kd.R_slice HO661.out; subst eo17; obtain ⟨Ao18, co18, eo18⟩ := Kd.R_slice HO655.out; subst eo18; have hcz19_0 : w16.cell? ⟨gb648, 0, none⟩ = some (.int .i64 0) := (blk_cell BK648.out 0).trans rfl; have hcz19_1 : w16.cell? ⟨gb648, 1, none⟩ = some (.slice none 0 0) := (blk_cell BK648.out 1).trans rfl; have hcz19_2 : w16.cell? ⟨gb648, 2, none⟩ = some (.slice none 0 0) := (blk_cell BK648.out 2).trans rfl; have hfz19_0 := blk_frozen BK648.out 0; have hfz19_1 := blk_frozen BK648.out 1; have hfz19_2 := blk_frozen BK648.out 2))
  refine bodyPost_ret (results_ct rfl _ _ gb648 42 #[.int .i64 a1, .slice Ao18 t653.length co18, .slice Ao17 t659.length co17] (0, 0) _ rfl (by refine kK_ ?_; refine blk_put (cs := #[.int .i64 a1, .slice Ao18 t653.length co18, .slice none 0 0]) ?_ 2 _ rfl; refine kK_ ?_; refine blk_put (cs := #[.int .i64 a1, .slice none 0 0, .slice none 0 0]) ?_ 1 _ rfl; refine kK_ ?_; refine blk_put (cs := #[.int .i64 0, .slice none 0 0, .slice none 0 0]) ?_ 0 _ rfl; exact rK_ BK648.out) Tryd.underlying42 rfl (by kernel_rfl)) rfl ?_
  exact ⟨_, _, by first | rfl | (simp [errW_none, errW_some] <;> rfl) | (simp [*, errW_none, errW_some] <;> rfl), by refine kR_ ?_; exact Kd.R_mono (Kd.R_far (Kd.R_far (Kd.R_far (Kd.R_types HO655.out BK648.out (by decide)) (fun _ hk => hk.2) _) (fun _ hk => hk.2) _) (fun _ hk => hk.2) _) (fun _ hk => hk.1.2), by refine kR_ ?_; exact Kd.R_mono (Kd.R_far (Kd.R_far (Kd.R_far (Kd.R_types HO661.out BK648.out (by decide)) (fun _ hk => hk.2) _) (fun _ hk => hk.2) _) (fun _ hk => hk.2) _) (fun _ hk => hk.1.1.2), hS_ GE648.out⟩
 ·replace c5 := Bool.eq_false_iff.mpr c5
  subst c5
  have H1 : (some (0, ([] : List ByteArray), ([] : List ByteArray), false)) = some (r1, r2, r3, r4) := by rw [if_neg (show ¬ (false = true) by decide)] at H; exact H
  clear H
  have H := H1
  clear H1
  simp only [Option.some.injEq, Prod.mk.injEq] at H
  obtain ⟨rfl, rfl, rfl, rfl⟩ := H
  go_enter Tryd.func38, Tryd.ntmps38
  go_wp2_with (first | ((with_reducible refine gate_dst (N := 6) rfl ?_); refine box_event ?hg (N := 6) ?hd (cs := #[.int .i64 0, .slice none 0 0, .slice none 0 0]) (t := 42) ?hr ?_; (case hd => rfl); (case hg => rfl); (case hr => first | (go_simp; done) | (go_simp; rfl)); intro gb648 hg w20 hbox hb; have n0_ := Aside0.mk (below_step (hB_) hb); have n1_ := Aside0.mk (hbox); have n2_ := Aside0.mk ((by rw [hg]; exact (below_size (hB_)) : w.heap.size ≤ gb648)); have n3_ := Aside0.mk ((by rw [hg]; exact (below_size (hB_)) : w.heap.size ≤ gb648)); replace HB := n0_; have BK648 := n1_; have GW648 := n2_; have GE648 := n3_; clear n0_ n1_ n2_ n3_; clear hb hbox hg) | ((with_reducible refine gate_callee (f := 62) rfl ?_); refine goesL_ (some 9) rfl rfl Tryd.func62 (by kernel_rfl) rfl #[.int .i64 a1, .int .i64 0, .int .i64 3] rfl aM_ ?_; (with_reducible refine (spec_l01In.calls a1 0 3 false _ A4.out).mono ?_); rintro e w' ⟨rfl, ⟨nd, rfl⟩⟩; refine ⟨_, rfl, ?_⟩; (try (rw [drewN_self w20]; generalize hq_ : World.drewN w20 _ = w20; have n0_ : Aside0 (w20.heap[gb648]? = some (.cells #[.int .i64 0, .slice none 0 0, .slice none 0 0] 42 (0, 0))) := ⟨by rw [← hq_]; exact (rK_ BK648.out)⟩; have n1_ : Aside0 (Below w.heap.size w w20) := ⟨by rw [← hq_]; exact (hS_ GE648.out)⟩; clear BK648 HB hq_; have BK648 := n0_; have HB := n1_; clear n0_ n1_)); have hcz21_0 : w20.cell? ⟨gb648, 0, none⟩ = some (.int .i64 0) := (blk_cell BK648.out 0).trans rfl; have hcz21_1 : w20.cell? ⟨gb648, 1, none⟩ = some (.slice none 0 0) := (blk_cell BK648.out 1).trans rfl; have hcz21_2 : w20.cell? ⟨gb648, 2, none⟩ = some (.slice none 0 0) := (blk_cell BK648.out 2).trans rfl; have hfz21_0 := blk_frozen BK648.out 0; have hfz21_1 := blk_frozen BK648.out 1; have hfz21_2 := blk_frozen BK648.out 2))
  refine bodyPost_ret (results_ct rfl _ _ gb648 42 #[.int .i64 0, .slice none 0 0, .slice none 0 0] (0, 0) _ rfl (by refine kK_ ?_; refine blk_put (cs := #[.int .i64 0, .slice none 0 0, .slice none 0 0]) ?_ 2 _ rfl; refine kK_ ?_; refine blk_put (cs := #[.int .i64 0, .slice none 0 0, .slice none 0 0]) ?_ 1 _ rfl; refine kK_ ?_; refine blk_put (cs := #[.int .i64 0, .slice none 0 0, .slice none 0 0]) ?_ 0 _ rfl; exact rK_ BK648.out) Tryd.underlying42 rfl (by kernel_rfl)) rfl ?_
  exact ⟨_, _, by first | rfl | (simp [errW_none, errW_some] <;> rfl) | (simp [*, errW_none, errW_some] <;> rfl), by first | exact Kd.R_nil _ _ _ _ _ | exact Kd.N_nil _ _ _ _ _ | exact Kd.V_nil _ _ _ _ _ | exact Kd.Q_nil _ _ _ _ _ | exact Kd.S_nil _ _ _ _ _, by first | exact Kd.R_nil _ _ _ _ _ | exact Kd.N_nil _ _ _ _ _ | exact Kd.V_nil _ _ _ _ _ | exact Kd.Q_nil _ _ _ _ _ | exact Kd.S_nil _ _ _ _ _, hS_ GE648.out⟩

end Go.Proofs.YtjcmafoepabpkaaDoor.P
