-- printed texts of this session, regrouped
import Derived.Test.YtnckhligcdieaaaMWC
import Derived.Test.YtnckhligcdieaaaMWA
import Derived.Test.YtnckhligcdieaaaMW7
import Derived.Test.YtnckhligcdieaaaMW8
import Derived.Test.YtnckhligcdieaaaMW6
import Derived.Test.YtnckhligcdieaaaPx0
import Derived.Test.YtnckhligcdieaaaPx5
import Derived.Test.YtnckhligcdieaaaPx6
import Derived.Test.YtnckhligcdieaaaPx7
namespace Go.Proofs.Ytnckhligcdieaaa.P
open Go.RowKit Go.Proofs.YtnckhligcdieaaaW.PrintWords Go.Proofs.YtnckhligcdieaaaW.PrintLast Go.Proofs.YtnckhligcdieaaaW.PrintMore
attribute [local go_sem] max2_int min2_int max_two min_two max_three min_three max_four min_four   -- for this text's walks alone
set_option linter.unusedVariables false
set_option linter.unusedSimpArgs false
set_option maxHeartbeats 8000000
set_option maxRecDepth 100000

/-! ### spec_l13Sum: function 56 -/
def spec_l13Sum.l0 : Nat → List (List Int) → List (List Int) → List Int → Int → Option (List Int)
 | 0, _, _, _, _ => none
 | k + 1, x0, x1, x5, x6 => if x6 < (x0.length : Int) then (if 0 ≤ x6 then (if x6 < (x1.length : Int) then ((spec_MulNtt.f k (rd_L5 x0 x6) (rd_L5 x1 x6)).bind fun t957 => ((spec_PolyAdd.f k x5 t957).bind fun t960 => (spec_l13Sum.l0 k x0 x1 t960 (wrap64 (x6 + 1))))) else (none)) else (none)) else (some x5)
def spec_l13Sum.f (k : Nat) (l0 : List (List Int)) (l1 : List (List Int)) : Option (List Int) := if 256 ≤ 35184372088832 then (spec_l13Sum.l0 k l0 l1 (List.replicate 256 0) 0) else (none)
theorem spec_l13Sum.mono_l : ∀ k, (∀ y0 y1 y2 y3, LeO (spec_l13Sum.l0 k y0 y1 y2 y3) (spec_l13Sum.l0 (k + 1) y0 y1 y2 y3))
 | 0 => fun _ _ _ _ r h => by simp [spec_l13Sum.l0] at h
 | k + 1 => by
  have ih0 := spec_l13Sum.mono_l k
  intros; unfold spec_l13Sum.l0; exact o3_ ih0 spec_MulNtt.mono spec_PolyAdd.mono
theorem spec_l13Sum.mono : ∀ a0 a1 k, LeO (spec_l13Sum.f k a0 a1) (spec_l13Sum.f (k + 1) a0 a1) := by
 intro a0 a1 k
 have ih0 := spec_l13Sum.mono_l k
 unfold spec_l13Sum.f
 exact o3_ ih0 spec_MulNtt.mono spec_PolyAdd.mono
def spec_l13Sum.T5 : Bool × List (List Nat × List Nat) := (true, [([], []), ([], []), ([], []), ([1, 2], [1, 2]), ([3], [3]), ([], []), ([], []), ([5, 6], [5, 6]), ([7], [7]), ([4, 8], [4, 8]), ([0, 9, 9], [0, 9]), ([10, 10, 0, 1, 2, 3, 4, 5, 6, 7, 8, 9, 10], [0, 10])])
def spec_l13Sum.B5 : List Nat := [0, 0, 0, 6, 14, 0, 0, 96, 224, 510, 1023, 2047]
theorem spec_l13Sum.tab5 : rtab .any (opsOf Try.f56 5) = spec_l13Sum.T5 := by kernel_rfl
theorem spec_l13Sum.bits5 : waitsOk spec_l13Sum.T5.2 spec_l13Sum.B5 = true := by kernel_rfl
theorem spec_l13Sum.calls (k : Nat) (A0 : Option Addr) (c0 : Nat) (l0 : List (List Int)) (A1 : Option Addr) (c1 : Nat) (l1 : List (List Int)) (r : List Int) (w : World) (hr0 : Kd.C (Kd.slice 3 (Kd.int .i64)) w A0 l0.length l0) (hc0 : l0.length ≤ c0) (hr1 : Kd.C (Kd.slice 3 (Kd.int .i64)) w A1 l1.length l1) (hc1 : l1.length ≤ c1) (h : spec_l13Sum.f k l0 l1 = some r) :
  Calls Try.prog 56 #[.slice A0 l0.length c0, .slice A1 l1.length c1] w fun e w' => ∃ v0_ : Value, e = .returned (v0_) ∧ Kd.R (Kd.int .i64) 3 w' w.heap.size (fun _ => True) v0_ r ∧ Below w.heap.size w w' := by
 have HR0 := Aside0.mk hr0
 have HC0 := Aside0.mk hc0
 clear hr0 hc0
 have HR1 := Aside0.mk hr1
 have HC1 := Aside0.mk hc1
 clear hr1 hc1
 have HB := Aside0.mk (Below.refl w.heap.size w)
 delta spec_l13Sum.f at h
 have H := h
 clear h
 obtain ⟨c3, H⟩ := iN_ H
 have c3b0 := eq_true c3
 have c3b1 := decide_eq_true c3
 clear c3
 obtain ⟨y952, hy952⟩ : ∃ y_ : List Int, y_ = (List.replicate 256 0) := ⟨_, rfl⟩
 first | replace H := yb_ hy952 H | rw [← hy952] at H
 have Ny952 := Aside0.mk hy952
 clear hy952
 have H' := Aside0.mk H
 clear H
 go_enter Try.func56, Try.ntmps56
 go_wp2_with (first | ((with_reducible refine gate_dst (N := 7) rfl ?_); refine Kd.R_make (Kd.int .i64) _ 3 rfl (N := 7) rfl 22 _ _ rfl 256 rfl rfl Try.underlying22 (.int .i64 0) 8 info3 rfl (by decide) (by omega) 0 (ok := fun _ => True) (okp := fun _ => True) rfl (fun _ hk => hk) trivial (by omega) (by omega) (Below.refl _ _) (Nat.le_refl _) ?_; intro v953 w4 ho5 hb hg_ hnew_; clear hg_ hnew_; (first | rw [← Ny952.out] at ho5 | (simp only [Int.reduceToNat] at ho5; rw [← Ny952.out] at ho5)); have n_ := b_ (Kd.R_lower ho5 (below_size (hB_))) <| c_ (below_step (hB_) hb); clear HB; obtain ⟨HO954, HB⟩ := n_; clear hb ho5))
 go_loopg [5, 6] k (fun kq v5 v6 w' => ∃ (x5_1 : List Int) (x6_1 : Int), v6 = .int .i64 x6_1 ∧ Aside0 (spec_l13Sum.l0 kq l0 l1 x5_1 x6_1 = some r) ∧ Aside0 (kq ≤ k) ∧ Aside0 (Kd.R (Kd.int .i64) 3 w' w.heap.size (fun _ => True) v5 x5_1) ∧ Aside0 (Below w.heap.size w w'))
 case atStart => exact ⟨(y952), (0), f0_, H', ⟨Nat.le_refl _⟩, ⟨rR_ HO954.out⟩, ⟨hB_⟩⟩
 case round =>
  clear H'
  obtain ⟨x5_1, x6_1, rfl, HA, HK1, HO_5, HB⟩ := hrel
  cases gk with
  | zero => exact absurd HA.out (by simp [spec_l13Sum.l0])
  | succ k1 =>
   have H := HA.out
   clear HA
   simp only [spec_l13Sum.l0] at H
   by_cases c6 : x6_1 < (l0.length : Int)
   rotate_left
   ·rw [if_neg c6] at H
    have c6b0 := decide_eq_false c6
    clear c6
    obtain rfl := Option.some.inj H
    go_wp2
    go_ret
    exact ⟨_, f1_, rR_ HO_5.out, hB_⟩
   rw [if_pos c6] at H
   have c6b0 := decide_eq_true c6
   clear c6
   obtain ⟨c7b0, H⟩ := iD_ H
   obtain ⟨c8b0, H⟩ := iD_ H
   obtain ⟨t957, A9, H⟩ := bN_ H
   obtain ⟨t960, A10, H⟩ := bN_ H
   have H' := Aside0.mk H
   clear H
   try go_wp2
   have n_ := b_ (Kd.R_drew HO_5.out) <| c_ (below_drew1 HB.out)
   clear HO_5 HB
   obtain ⟨HO_5, HB⟩ := n_
   have p955 : 0 ≤ (x6_1 : Int) := oD_
   have q955 : x6_1 < (l0.length : Int) := oD_
   obtain ⟨ad955, A955_0, c955_0, e955, hx955_0, hl955_0, hi955_0⟩ := at_L5 HR0.out x6_1 p955 q955
   have hw955_0 := hx955_0
   cases e955
   replace hx955_0 := (HB.out.cell (World.block_lt_of_cell? w _ hx955_0)).trans hx955_0
   have HR955_0 := Aside0.mk hi955_0
   have HC955_0 := Aside0.mk hl955_0
   clear hi955_0 hl955_0
   replace p955 := eq_true p955
   replace q955 := eq_true q955
   have p956 : 0 ≤ (x6_1 : Int) := oD_
   have q956 : x6_1 < (l1.length : Int) := oD_
   obtain ⟨ad956, A956_0, c956_0, e956, hx956_0, hl956_0, hi956_0⟩ := at_L5 HR1.out x6_1 p956 q956
   have hw956_0 := hx956_0
   cases e956
   replace hx956_0 := (HB.out.cell (World.block_lt_of_cell? w _ hx956_0)).trans hx956_0
   have HR956_0 := Aside0.mk hi956_0
   have HC956_0 := Aside0.mk hl956_0
   clear hi956_0 hl956_0
   replace p956 := eq_true p956
   replace q956 := eq_true q956
   refine start_ (n := 12) (S := fun w' => w'.cell? (ad955.add (x6_1).toNat) = some (.slice A955_0 (rd_L5 l0 x6_1).length c955_0) ∧ w'.cell? (ad956.add (x6_1).toNat) = some (.slice A956_0 (rd_L5 l1 x6_1).length c956_0)) (ds := []) (bb_ 12 0) (by kernel_rfl) rfl rfl ⟨((HB.out.cell (World.block_lt_of_cell? w _ hw955_0)).trans hw955_0), ((HB.out.cell (World.block_lt_of_cell? w _ hw956_0)).trans hw956_0)⟩ (fun hHeld => ?_); refine with_tabW spec_l13Sum.tab5 spec_l13Sum.bits5 (fun HT_ HW_ => ?_)
   generalize wr.drew = w11 at HO_5 HB HR955_0 HR956_0 hx955_0 hx956_0 hHeld ⊢
   refine pS_ 0 14 (bb_ 12 1) HT_.out ?_
   refine pS_ 1 15 (bb_ 12 3) HT_.out ?_
   refine pS_ 2 16 (bb_ 12 7) HT_.out ?_
   refine pS_ 3 17 (bb_ 12 15) HT_.out ?_
   refine pS_ 5 19 (bb_ 12 47) HT_.out ?_
   refine pS_ 6 20 (bb_ 12 111) HT_.out ?_
   refine pS_ 7 21 (bb_ 12 239) HT_.out ?_
   refine tS_ 4 18 (bb_ 12 255) (take_ofW HT_.out HW_.out (by kernel_rfl)) hHeld ?_
   refine tS_ 8 22 (bb_ 12 511) (take_ofW HT_.out HW_.out (by kernel_rfl)) hHeld ?_
   refine one_ (i := 9) (N := some 23) (bb_ 12 1023) rfl rfl (one_of HT_.out (by kernel_rfl)) (by decide) (fun K hK => ?_)
   refine goes_ Try.func89 (by kernel_rfl) rfl #[.slice A955_0 (rd_L5 l0 x6_1).length c955_0, .slice A956_0 (rd_L5 l1 x6_1).length c956_0] (by rfl) rfl rfl aM_ ?_
   with_reducible refine (spec_MulNtt.calls k1 _ _ (rd_L5 l0 x6_1) _ _ (rd_L5 l1 x6_1) t957 _ ?side1 ?side2 ?side3 ?side4 A9.out).mono ?_
   (case side1 => exact cR_ (Kd.C_below HR955_0.out HB.out))
   (case side2 => exact HC955_0.out)
   (case side3 => exact cR_ (Kd.C_below HR956_0.out HB.out))
   (case side4 => exact HC956_0.out)
   rintro e w12 ⟨v958, rfl, ho0, hb⟩
   refine ⟨_, rfl, ?_⟩
   have n_ := b_ (Kd.R_elder' (rR_ HO_5.out) (Kd.R_base ho0) hb) <| b_ (Kd.R_lower (Kd.R_new' ho0 (Kd.R_lt (rR_ HO_5.out))) (below_size (hB_))) <| c_ (below_step (hB_) hb)
   clear HO_5 HB
   obtain ⟨HO_5, HO959, HB⟩ := n_
   obtain ⟨Ao13, co13, eo13⟩ := Kd.R_slice HO_5.out
   (first | subst eo13 | (injection eo13 with f1_ f2_ f3_; have f4_ := f1_.symm; have f5_ := f3_.symm; clear f1_ f2_ f3_; subst f4_; subst f5_))
   obtain ⟨Ao14, co14, eo14⟩ := Kd.R_slice HO959.out
   (first | subst eo14 | (injection eo14 with f1_ f2_ f3_; have f4_ := f1_.symm; have f5_ := f3_.symm; clear f1_ f2_ f3_; subst f4_; subst f5_))
   refine hK.out _ _ ⟨((HB.out.cell (World.block_lt_of_cell? w _ hw955_0)).trans hw955_0), ((HB.out.cell (World.block_lt_of_cell? w _ hw956_0)).trans hw956_0)⟩ (fun hHeld => ?_)
   clear hK K
   refine norm_ (a' := ?_) ?_ ?_
   rotate_left
   ·show Act.put _ (some 23) _ = _
    simp only [Act.put, List.setIfInBounds_toArray, List.set_cons_zero, List.set_cons_succ, i64_w, i32_w]
    rfl
   refine one_ (i := 10) (N := some 24) (bb_ 12 2047) rfl rfl (one_of HT_.out (by kernel_rfl)) (by decide) (fun K hK => ?_)
   refine goes_ Try.func54 (by kernel_rfl) rfl #[.slice Ao13 x5_1.length co13, .slice Ao14 t957.length co14] (by rfl) rfl rfl aM_ ?_
   with_reducible refine (spec_PolyAdd.calls k1 _ _ x5_1 _ _ t957 t960 _ ?side1 ?side2 ?side3 ?side4 A10.out).mono ?_
   (case side1 => exact cR_ (Kd.R_reads' HO_5.out).2.2)
   (case side2 => exact (Kd.R_reads' HO_5.out).2.1)
   (case side3 => exact cR_ (Kd.R_reads' HO959.out).2.2)
   (case side4 => exact (Kd.R_reads' HO959.out).2.1)
   rintro e w15 ⟨v961, rfl, ho0, hb⟩
   refine ⟨_, rfl, ?_⟩
   have n_ := b_ (Kd.R_elder' (rR_ HO_5.out) (Kd.R_base ho0) hb) <| b_ (Kd.R_elder' (rR_ HO959.out) (Kd.R_base ho0) hb) <| b_ (Kd.R_lower (Kd.R_new' (Kd.R_new' ho0 (Kd.R_lt (rR_ HO_5.out))) (Kd.R_lt (rR_ HO959.out))) (below_size (hB_))) <| c_ (below_step (hB_) hb)
   clear HO_5 HO959 HB
   obtain ⟨HO_5, HO959, HO962, HB⟩ := n_
   refine hK.out _ _ ⟨((HB.out.cell (World.block_lt_of_cell? w _ hw955_0)).trans hw955_0), ((HB.out.cell (World.block_lt_of_cell? w _ hw956_0)).trans hw956_0)⟩ (fun hHeld => ?_)
   clear hK K
   refine norm_ (a' := ?_) ?_ ?_
   rotate_left
   ·show Act.put _ (some 24) _ = _
    simp only [Act.put, List.setIfInBounds_toArray, List.set_cons_zero, List.set_cons_succ, i64_w, i32_w]
    rfl
   refine pS_ 11 5 (bb_ 12 4095) HT_.out ?_
   refine done_ (done_of HT_.out (by kernel_rfl)) ?_
   try go_wp2
   go_roundg k1
   case measure => have := HK1.out; omega
   case rel => exact ⟨(t960), (wrap64 (x6_1 + 1)), f0_, H', ⟨by have := HK1.out; omega⟩, ⟨by refine kR_ ?_; exact Kd.R_mono HO962.out (fun _ hk => trivial)⟩, ⟨hB_⟩⟩

/-! ### spec_Squeeze: function 90 -/
def spec_Squeeze.j0 : Nat → Int → Int → Bool → Option (Int)
 | 0, _, _, _ => none
 | k + 1, x0, x1, x12 => if x12 = true then (some 0) else ((spec_l11Two.f k x1).bind fun t965 => ((spec_l11Two.f k x1).bind fun t966 => (if t966 = 0 then (none) else (some (Int.tmod (wrap64 (Int.tdiv (wrap64 ((wrap64 (t965 * x0)) + 1664)) 3329)) t966)))))
def spec_Squeeze.f (k : Nat) (a0 : Int) (a1 : Int) : Option (Int) := (spec_l01In.f a0 0 3328).bind fun t963 => (if t963 = true then ((spec_l01In.f a1 1 11).bind fun t964 => (spec_Squeeze.j0 k a0 a1 (!t964))) else (spec_Squeeze.j0 k a0 a1 true))
theorem spec_Squeeze.mono_l : ∀ k, (∀ y0 y1 y2, LeO (spec_Squeeze.j0 k y0 y1 y2) (spec_Squeeze.j0 (k + 1) y0 y1 y2))
 | 0 => fun _ _ _ r h => by simp [spec_Squeeze.j0] at h
 | k + 1 => by
  have ih0 := spec_Squeeze.mono_l k
  intros; unfold spec_Squeeze.j0; exact o2_ ih0 spec_l11Two.mono
theorem spec_Squeeze.mono : ∀ a0 a1 k, LeO (spec_Squeeze.f k a0 a1) (spec_Squeeze.f (k + 1) a0 a1) := by
 intro a0 a1 k
 have ih0 := spec_Squeeze.mono_l k
 unfold spec_Squeeze.f
 exact o2_ ih0 spec_l11Two.mono
theorem spec_Squeeze.calls (k : Nat) (a0 : Int) (a1 : Int) (r : Int) (w : World) (h : spec_Squeeze.f k a0 a1 = some r) :
  Calls Try.prog 90 #[.int .i64 a0, .int .i64 a1] w fun e w' => e = .returned (.int .i64 r) ∧ Drawn0 w w' := by
 delta spec_Squeeze.f at h
 have H := h
 clear h
 have HC3 := Aside0.mk H
 clear H
 go_enter Try.func90, Try.ntmps90
 go_upto_region 1 with (fail)
 go_cut [12] (fun v12 wc => ∃ (kq : Nat) (x12_2 : Bool), v12 = .bool x12_2 ∧ Aside0 (spec_Squeeze.j0 kq a0 a1 x12_2 = some r) ∧ Aside0 (kq ≤ k) ∧ Drawn0 w wc)
 case first =>
  have H := HC3.out
  clear HC3
  obtain ⟨t963, A4, H⟩ := bN_ H
  by_cases c5 : t963 = true
  ·subst c5
   replace H := iT_ H
   obtain ⟨t964, A6, H⟩ := bN_ H
   have H' := Aside0.mk H
   clear H
   go_wp2_with (first | ((with_reducible refine gate_callee (f := 70) rfl ?_); refine goesL_ (some 6) rfl rfl Try.func70 (by kernel_rfl) rfl #[.int .i64 a0, .int .i64 0, .int .i64 3328] rfl aM_ ?_; (with_reducible refine (spec_l01In.calls a0 0 3328 true _ A4.out).mono ?_); rintro e w' ⟨rfl, ⟨nd, rfl⟩⟩; refine ⟨_, rfl, ?_⟩) | (go_at_call 70; (with_reducible refine (spec_l01In.calls a1 1 11 t964 _ A6.out).mono ?_); rintro e w' ⟨rfl, ⟨nd, rfl⟩⟩))
   go_meet
   case rel => exact ⟨_, (!t964), f0_, H', ⟨by first | omega | exact Nat.le_refl _⟩, d0_⟩
  ·replace c5 := Bool.eq_false_iff.mpr c5
   subst c5
   replace H := iF_ H
   have H' := Aside0.mk H
   clear H
   go_wp2_with (first | ((with_reducible refine gate_callee (f := 70) rfl ?_); refine goesL_ (some 6) rfl rfl Try.func70 (by kernel_rfl) rfl #[.int .i64 a0, .int .i64 0, .int .i64 3328] rfl aM_ ?_; (with_reducible refine (spec_l01In.calls a0 0 3328 false _ A4.out).mono ?_); rintro e w' ⟨rfl, ⟨nd, rfl⟩⟩; refine ⟨_, rfl, ?_⟩))
   go_meet
   case rel => exact ⟨_, (true), f0_, H', ⟨by first | omega | exact Nat.le_refl _⟩, d0_⟩
 case rest =>
  clear HC3
  obtain ⟨kq, x12_2, rfl, HA, HJ2, ⟨mc2, rfl⟩⟩ := hcut
  cases kq with
  | zero => exact absurd HA.out (by simp [spec_Squeeze.j0])
  | succ kj2 =>
   have H := HA.out
   clear HA
   simp only [spec_Squeeze.j0] at H
   by_cases c7 : x12_2 = true
   ·subst c7
    replace H := iT_ H
    obtain rfl := Option.some.inj H
    go_wp2
    go_ret
    exact ⟨f0_, d0_⟩
   ·replace c7 := Bool.eq_false_iff.mpr c7
    subst c7
    replace H := iF_ H
    obtain ⟨t965, A8, H⟩ := bN_ H
    obtain ⟨t966, A9, H⟩ := bN_ H
    have QA9 := Aside0.mk (Option.some.inj (A8.out.symm.trans A9.out))
    by_cases c10 : t966 = 0
    ·rw [if_pos c10] at H
     exact absurd H (by simp)
    rw [if_neg c10] at H
    have c10b0 : (t966 == 0) = false := beq_eq_false_iff_ne.mpr c10
    have c10b1 : (t966 != 0) = true := bne_iff_ne.mpr c10
    obtain rfl := Option.some.inj H
    go_wp2_with (first | ((with_reducible refine gate_callee (f := 115) rfl ?_); refine goesL_ (some 14) rfl rfl Try.func115 (by kernel_rfl) rfl #[.int .i64 a1] rfl aM_ ?_; (with_reducible refine (spec_l11Two.calls kj2 a1 t965 _ A8.out).mono ?_); rintro e w' ⟨rfl, ⟨nd, rfl⟩⟩; refine ⟨_, rfl, ?_⟩) | ((with_reducible refine gate_callee (f := 115) rfl ?_); refine goesL_ (some 20) rfl rfl Try.func115 (by kernel_rfl) rfl #[.int .i64 a1] rfl aM_ ?_; (with_reducible refine (spec_l11Two.calls kj2 a1 t966 _ A9.out).mono ?_); rintro e w' ⟨rfl, ⟨nd, rfl⟩⟩; refine ⟨_, rfl, ?_⟩))
    go_ret
    exact ⟨by first | rfl | (simp only [QA9.out]; done) | (simp; done) | (simp [*]; done), d0_⟩

/-! ### spec_Pack: function 91 -/
mutual
def spec_Pack.l0 : Nat → List Int → Int → Int → Option (ByteArray × Bool)
 | 0, _, _, _ => none
 | k + 1, x0, x1, x6 => if x6 < (x0.length : Int) then (if 0 ≤ x6 then ((spec_l11Two.f k x1).bind fun t969 => ((spec_l01In.f (rd x0 x6) 0 (wrap64 (t969 - 1))).bind fun t970 => (if t970 = true then (spec_Pack.l0 k x0 x1 (wrap64 (x6 + 1))) else (some ((⟨#[]⟩ : ByteArray), false))))) else (none)) else (spec_Pack.l1 k x0 x1 (([] : List Int)) 0 0 0)
def spec_Pack.l1 : Nat → List Int → Int → List Int → Int → Int → Int → Option (ByteArray × Bool)
 | 0, _, _, _, _, _, _ => none
 | k + 1, x0, x1, x7, x8, x9, x10 => if x10 < (x0.length : Int) then (if 0 ≤ x10 then ((spec_l11Two.f k x9).bind fun t978 => (spec_Pack.l2 k x0 x1 x7 (wrap64 (x8 + (wrap64 ((rd x0 x10) * t978)))) (wrap64 (x9 + x1)) x10)) else (none)) else (if x9 > 0 then (if x7.length < 140737488355328 then (some (strOfNums (x7 ++ [(x8) % 256]), true)) else (none)) else (some (strOfNums x7, true)))
def spec_Pack.l2 : Nat → List Int → Int → List Int → Int → Int → Int → Option (ByteArray × Bool)
 | 0, _, _, _, _, _, _ => none
 | k + 1, x0, x1, x7, x8, x9, x10 => if x9 ≥ 8 then (if x7.length < 140737488355328 then (spec_Pack.l2 k x0 x1 (x7 ++ [(Int.tmod x8 256) % 256]) (wrap64 (Int.tdiv x8 256)) (wrap64 (x9 - 8)) x10) else (none)) else (spec_Pack.l1 k x0 x1 x7 x8 x9 (wrap64 (x10 + 1)))
end
def spec_Pack.f (k : Nat) (l0 : List Int) (a1 : Int) : Option (ByteArray × Bool) := (spec_l01In.f a1 1 12).bind fun t967 => (if t967 = true then (spec_Pack.l0 k l0 a1 0) else (some ((⟨#[]⟩ : ByteArray), false)))
theorem spec_Pack.mono_l : ∀ k, (∀ y0 y1 y2, LeO (spec_Pack.l0 k y0 y1 y2) (spec_Pack.l0 (k + 1) y0 y1 y2)) ∧ (∀ y0 y1 y2 y3 y4 y5, LeO (spec_Pack.l1 k y0 y1 y2 y3 y4 y5) (spec_Pack.l1 (k + 1) y0 y1 y2 y3 y4 y5)) ∧ (∀ y0 y1 y2 y3 y4 y5, LeO (spec_Pack.l2 k y0 y1 y2 y3 y4 y5) (spec_Pack.l2 (k + 1) y0 y1 y2 y3 y4 y5))
 | 0 => ⟨fun _ _ _ r h => by simp [spec_Pack.l0] at h, fun _ _ _ _ _ _ r h => by simp [spec_Pack.l1] at h, fun _ _ _ _ _ _ r h => by simp [spec_Pack.l2] at h⟩
 | k + 1 => by
  obtain ⟨ih0, ih1, ih2⟩ := spec_Pack.mono_l k
  refine ⟨?_, ?_, ?_⟩ <;> (intros; (first | unfold spec_Pack.l0 | unfold spec_Pack.l1 | unfold spec_Pack.l2); exact o4_ ih0 ih1 ih2 spec_l11Two.mono)
theorem spec_Pack.mono : ∀ a0 a1 k, LeO (spec_Pack.f k a0 a1) (spec_Pack.f (k + 1) a0 a1) := by
 intro a0 a1 k
 obtain ⟨ih0, ih1, ih2⟩ := spec_Pack.mono_l k
 unfold spec_Pack.f
 exact o4_ ih0 ih1 ih2 spec_l11Two.mono
theorem spec_Pack.calls (k : Nat) (A0 : Option Addr) (c0 : Nat) (l0 : List Int) (a1 : Int) (r1 : ByteArray) (r2 : Bool) (w : World) (hr0 : Kd.C (Kd.int .i64) w A0 l0.length l0) (hc0 : l0.length ≤ c0) (h : spec_Pack.f k l0 a1 = some (r1, r2)) :
  Calls Try.prog 91 #[.slice A0 l0.length c0, .int .i64 a1] w fun e w' => e = .returned (.tuple #[.string r1, .bool r2]) ∧ Below w.heap.size w w' := by
 have HR0 := Aside0.mk hr0
 have HC0 := Aside0.mk hc0
 clear hr0 hc0
 have HB := Aside0.mk (Below.refl w.heap.size w)
 delta spec_Pack.f at h
 have H := h
 clear h
 obtain ⟨t967, A3, H⟩ := bN_ H
 by_cases c4 : t967 = true
 ·subst c4
  replace H := iT_ H
  have H' := Aside0.mk H
  clear H
  go_enter Try.func91, Try.ntmps91
  go_wp2_with (first | (go_at_call 70; (with_reducible refine (spec_l01In.calls a1 1 12 true _ A3.out).mono ?_); rintro e w' ⟨rfl, ⟨nd, rfl⟩⟩; (try first | exact ⟨rfl, _, World.drewN_drewN _ _ _⟩ | exact ⟨rfl, _, Eq.trans (World.drewN_drewN _ _ _) (congrArg (World.drewN _) (Nat.add_assoc _ _ _))⟩)))
  repeat (go_quiet (first | (go_at_call 70; (with_reducible refine (spec_l01In.calls a1 1 12 true _ A3.out).mono ?_); rintro e w' ⟨rfl, ⟨nd, rfl⟩⟩; (try first | exact ⟨rfl, _, World.drewN_drewN _ _ _⟩ | exact ⟨rfl, _, Eq.trans (World.drewN_drewN _ _ _) (congrArg (World.drewN _) (Nat.add_assoc _ _ _))⟩))); try go_wp2)
  go_loopg [6] k (fun kq v6 w' => ∃ (x6_1 : Int), v6 = .int .i64 x6_1 ∧ Aside0 (spec_Pack.l0 kq l0 a1 x6_1 = some (r1, r2)) ∧ Aside0 (kq ≤ k) ∧ Aside0 (Below w.heap.size w w'))
  case atStart => exact ⟨(0), f0_, H', ⟨Nat.le_refl _⟩, ⟨hB_⟩⟩
  case round =>
   clear H'
   obtain ⟨x6_1, rfl, HA, HK1, HB⟩ := hrel
   cases gk with
   | zero => exact absurd HA.out (by simp [spec_Pack.l0])
   | succ k1 =>
    have H := HA.out
    clear HA
    simp only [spec_Pack.l0] at H
    by_cases c5 : x6_1 < (l0.length : Int)
    ·rw [if_pos c5] at H
     have c5b0 := decide_eq_true c5
     clear c5
     obtain ⟨c6b0, H⟩ := iD_ H
     obtain ⟨t969, A7, H⟩ := bN_ H
     obtain ⟨t970, A8, H⟩ := bN_ H
     by_cases c9 : t970 = true
     ·subst c9
      replace H := iT_ H
      have H' := Aside0.mk H
      clear H
      have p968 : 0 ≤ (x6_1 : Int) := oD_
      have q968 : x6_1 < (l0.length : Int) := oD_
      obtain ⟨ad968, e968, hx968_0⟩ := Kd.at_int HR0.out x6_1 p968 q968
      cases e968
      replace hx968_0 := (HB.out.cell (World.block_lt_of_cell? w _ hx968_0)).trans hx968_0
      replace p968 := eq_true p968
      replace q968 := eq_true q968
      go_wp2_with (first | (go_at_call 115; (with_reducible refine (spec_l11Two.calls k1 a1 t969 _ A7.out).mono ?_); rintro e w' ⟨rfl, ⟨nd, rfl⟩⟩; (try first | exact ⟨rfl, _, World.drewN_drewN _ _ _⟩ | exact ⟨rfl, _, Eq.trans (World.drewN_drewN _ _ _) (congrArg (World.drewN _) (Nat.add_assoc _ _ _))⟩)) | (go_at_call 70; (with_reducible refine (spec_l01In.calls (rd l0 x6_1) 0 (wrap64 (t969 - 1)) true _ A8.out).mono ?_); rintro e w' ⟨rfl, ⟨nd, rfl⟩⟩; (try first | exact ⟨rfl, _, World.drewN_drewN _ _ _⟩ | exact ⟨rfl, _, Eq.trans (World.drewN_drewN _ _ _) (congrArg (World.drewN _) (Nat.add_assoc _ _ _))⟩)))
      repeat (go_quiet (first | (go_at_call 115; (with_reducible refine (spec_l11Two.calls k1 a1 t969 _ A7.out).mono ?_); rintro e w' ⟨rfl, ⟨nd, rfl⟩⟩; (try first | exact ⟨rfl, _, World.drewN_drewN _ _ _⟩ | exact ⟨rfl, _, Eq.trans (World.drewN_drewN _ _ _) (congrArg (World.drewN _) (Nat.add_assoc _ _ _))⟩)) | (go_at_call 70; (with_reducible refine (spec_l01In.calls (rd l0 x6_1) 0 (wrap64 (t969 - 1)) true _ A8.out).mono ?_); rintro e w' ⟨rfl, ⟨nd, rfl⟩⟩; (try first | exact ⟨rfl, _, World.drewN_drewN _ _ _⟩ | exact ⟨rfl, _, Eq.trans (World.drewN_drewN _ _ _) (congrArg (World.drewN _) (Nat.add_assoc _ _ _))⟩))); try go_wp2)
      go_roundg k1
      case measure => have := HK1.out; omega
      case rel => exact ⟨(wrap64 (x6_1 + 1)), f0_, H', ⟨by have := HK1.out; omega⟩, ⟨hB_⟩⟩
     ·replace c9 := Bool.eq_false_iff.mpr c9
      subst c9
      replace H := iF_ H
      simp only [Option.some.injEq, Prod.mk.injEq] at H
      obtain ⟨rfl, rfl⟩ := H
      have p968 : 0 ≤ (x6_1 : Int) := oD_
      have q968 : x6_1 < (l0.length : Int) := oD_
      obtain ⟨ad968, e968, hx968_0⟩ := Kd.at_int HR0.out x6_1 p968 q968
      cases e968
      replace hx968_0 := (HB.out.cell (World.block_lt_of_cell? w _ hx968_0)).trans hx968_0
      replace p968 := eq_true p968
      replace q968 := eq_true q968
      go_wp2_with (first | (go_at_call 115; (with_reducible refine (spec_l11Two.calls k1 a1 t969 _ A7.out).mono ?_); rintro e w' ⟨rfl, ⟨nd, rfl⟩⟩; (try first | exact ⟨rfl, _, World.drewN_drewN _ _ _⟩ | exact ⟨rfl, _, Eq.trans (World.drewN_drewN _ _ _) (congrArg (World.drewN _) (Nat.add_assoc _ _ _))⟩)) | (go_at_call 70; (with_reducible refine (spec_l01In.calls (rd l0 x6_1) 0 (wrap64 (t969 - 1)) false _ A8.out).mono ?_); rintro e w' ⟨rfl, ⟨nd, rfl⟩⟩; (try first | exact ⟨rfl, _, World.drewN_drewN _ _ _⟩ | exact ⟨rfl, _, Eq.trans (World.drewN_drewN _ _ _) (congrArg (World.drewN _) (Nat.add_assoc _ _ _))⟩)))
      repeat (go_quiet (first | (go_at_call 115; (with_reducible refine (spec_l11Two.calls k1 a1 t969 _ A7.out).mono ?_); rintro e w' ⟨rfl, ⟨nd, rfl⟩⟩; (try first | exact ⟨rfl, _, World.drewN_drewN _ _ _⟩ | exact ⟨rfl, _, Eq.trans (World.drewN_drewN _ _ _) (congrArg (World.drewN _) (Nat.add_assoc _ _ _))⟩)) | (go_at_call 70; (with_reducible refine (spec_l01In.calls (rd l0 x6_1) 0 (wrap64 (t969 - 1)) false _ A8.out).mono ?_); rintro e w' ⟨rfl, ⟨nd, rfl⟩⟩; (try first | exact ⟨rfl, _, World.drewN_drewN _ _ _⟩ | exact ⟨rfl, _, Eq.trans (World.drewN_drewN _ _ _) (congrArg (World.drewN _) (Nat.add_assoc _ _ _))⟩))); try go_wp2)
      go_ret2
      exact ⟨f1_, hB_⟩
    rw [if_neg c5] at H
    have c5b0 := decide_eq_false c5
    clear c5
    obtain ⟨y971, hy971⟩ : ∃ y_ : List Int, y_ = (([] : List Int)) := ⟨_, rfl⟩
    first | replace H := yb_ hy971 H | rw [← hy971] at H
    have Ny971 := Aside0.mk hy971
    clear hy971
    have H' := Aside0.mk H
    clear H
    go_wp2_with (first | ((with_reducible refine gate_dst (N := 29) rfl ?_); refine Kd.R_lit (Kd.int .u8) _ 5 ?hg (N := 29) ?hd (xs := ([] : List Int)) (inner := []) (ok := fun _ => True) (okp := fun _ => True) ?hr ?hp (fun _ hk => hk) trivial (Below.refl _ _) (Nat.le_refl _) (by simp) ?_; (case hd => rfl); (case hg => rfl); (case hr => first | (go_simp; done) | (go_simp; rfl)); (case hp => exact (Reps.none _ _)); intro v972 w10 ho11 hb hg_ hnew_; clear hg_ hnew_; (first | rw [← Ny971.out] at ho11 | (simp only [Int.reduceToNat] at ho11; rw [← Ny971.out] at ho11)); have n_ := b_ (Kd.R_lower ho11 (below_size (hB_))) <| c_ (below_step (hB_) hb); clear HB; obtain ⟨HO973, HB⟩ := n_; clear hb ho11))
    repeat (go_quiet (first | ((with_reducible refine gate_dst (N := 29) rfl ?_); refine Kd.R_lit (Kd.int .u8) _ 5 ?hg (N := 29) ?hd (xs := ([] : List Int)) (inner := []) (ok := fun _ => True) (okp := fun _ => True) ?hr ?hp (fun _ hk => hk) trivial (Below.refl _ _) (Nat.le_refl _) (by simp) ?_; (case hd => rfl); (case hg => rfl); (case hr => first | (go_simp; done) | (go_simp; rfl)); (case hp => exact (Reps.none _ _)); intro v972 w10 ho11 hb hg_ hnew_; clear hg_ hnew_; (first | rw [← Ny971.out] at ho11 | (simp only [Int.reduceToNat] at ho11; rw [← Ny971.out] at ho11)); have n_ := b_ (Kd.R_lower ho11 (below_size (hB_))) <| c_ (below_step (hB_) hb); clear HB; obtain ⟨HO973, HB⟩ := n_; clear hb ho11)); try go_wp2)
    go_loopg [7, 8, 9, 10] k1 (fun kq v7 v8 v9 v10 w' => ∃ (x7_2 : List Int) (x8_2 : Int) (x9_2 : Int) (x10_2 : Int), v8 = .int .i64 x8_2 ∧ v9 = .int .i64 x9_2 ∧ v10 = .int .i64 x10_2 ∧ Aside0 (spec_Pack.l1 kq l0 a1 x7_2 x8_2 x9_2 x10_2 = some (r1, r2)) ∧ Aside0 (kq ≤ k1) ∧ Aside0 (Kd.R (Kd.int .u8) 5 w' w.heap.size (fun _ => True) v7 x7_2) ∧ Aside0 (Below w.heap.size w w'))
    case atStart => exact ⟨(y971), (0), (0), (0), f0_, f0_, f0_, H', ⟨Nat.le_refl _⟩, ⟨rR_ HO973.out⟩, ⟨hB_⟩⟩
    case round =>
     clear H'
     obtain ⟨x7_2, x8_2, x9_2, x10_2, rfl, rfl, rfl, HA, HK2, HO_7, HB⟩ := hrel
     cases gk with
     | zero => exact absurd HA.out (by simp [spec_Pack.l1])
     | succ k2 =>
      have H := HA.out
      clear HA
      simp only [spec_Pack.l1] at H
      by_cases c12 : x10_2 < (l0.length : Int)
      rotate_left
      ·rw [if_neg c12] at H
       have c12b0 := decide_eq_false c12
       clear c12
       by_cases c18 : x9_2 > 0
       ·rw [if_pos c18] at H
        have c18b0 := decide_eq_true c18
        clear c18
        obtain ⟨c19, H⟩ := iN_ H
        have LMc19 := Aside0.mk c19
        clear c19
        obtain ⟨y974, hy974⟩ : ∃ y_ : List Int, y_ = (x7_2 ++ [(x8_2) % 256]) := ⟨_, rfl⟩
        first | replace H := yb_ hy974 H | rw [← hy974] at H
        have Ny974 := Aside0.mk hy974
        clear hy974
        simp only [Option.some.injEq, Prod.mk.injEq] at H
        obtain ⟨rfl, rfl⟩ := H
        go_wp2_with (first | ((with_reducible refine gate_builtin (b := .append) (xs := #[.tmp 62, .tmp 65]) rfl ?_); at_builtin; refine Kd.R_append (Kd.int .u8) (w0 := w) w.heap.size rfl (.tmp 62) (.tmp 65) 29 5 (.int .u8 0) 1 rfl Try.underlying29 info5 rfl (by decide) (by omega) u7 x7_2 ((x8_2) % 256) [.int .u8 ((x8_2) % 256)] (fun _ => True) (fun _ => False) rfl rfl ?aP (fun _ hk => hk.elim) ?aF ?aO ?aB ?aS ?aL ?_; (case aP => exact rfl); (case aB => exact (hB_)); (case aF => exact (fun _ _ => trivial)); (case aO => exact (rR_ HO_7.out)); (case aS => exact (below_size (hB_))); (case aL => have := LMc19.out; omega); intro v975 w20 ho hb hg hat; rw [← Ny974.out] at ho; have n_ := b_ (hb) <| c_ (ho); clear HO_7 HB; obtain ⟨HB, HO976⟩ := n_; clear ho hb hg hat; have hcv21 := own_string (P := Try.prog) Try.underlying29 Try.underlying5 Try.underlying9 (Kd.own_of_R HO976.out)))
        repeat (go_quiet (first | ((with_reducible refine gate_builtin (b := .append) (xs := #[.tmp 62, .tmp 65]) rfl ?_); at_builtin; refine Kd.R_append (Kd.int .u8) (w0 := w) w.heap.size rfl (.tmp 62) (.tmp 65) 29 5 (.int .u8 0) 1 rfl Try.underlying29 info5 rfl (by decide) (by omega) u7 x7_2 ((x8_2) % 256) [.int .u8 ((x8_2) % 256)] (fun _ => True) (fun _ => False) rfl rfl ?aP (fun _ hk => hk.elim) ?aF ?aO ?aB ?aS ?aL ?_; (case aP => exact rfl); (case aB => exact (hB_)); (case aF => exact (fun _ _ => trivial)); (case aO => exact (rR_ HO_7.out)); (case aS => exact (below_size (hB_))); (case aL => have := LMc19.out; omega); intro v975 w20 ho hb hg hat; rw [← Ny974.out] at ho; have n_ := b_ (hb) <| c_ (ho); clear HO_7 HB; obtain ⟨HB, HO976⟩ := n_; clear ho hb hg hat; have hcv21 := own_string (P := Try.prog) Try.underlying29 Try.underlying5 Try.underlying9 (Kd.own_of_R HO976.out))); try go_wp2)
        go_ret2
        exact ⟨f1_, hB_⟩
       rw [if_neg c18] at H
       have c18b0 := decide_eq_false c18
       clear c18
       simp only [Option.some.injEq, Prod.mk.injEq] at H
       obtain ⟨rfl, rfl⟩ := H
       have hcv22 := own_string (P := Try.prog) Try.underlying29 Try.underlying5 Try.underlying9 (Kd.own_of_R HO_7.out)
       go_wp2
       repeat (go_quiet (fail); try go_wp2)
       go_ret2
       exact ⟨f1_, hB_⟩
      rw [if_pos c12] at H
      have c12b0 := decide_eq_true c12
      clear c12
      obtain ⟨c13b0, H⟩ := iD_ H
      obtain ⟨t978, A14, H⟩ := bN_ H
      have H' := Aside0.mk H
      clear H
      have p977 : 0 ≤ (x10_2 : Int) := oD_
      have q977 : x10_2 < (l0.length : Int) := oD_
      obtain ⟨ad977, e977, hx977_0⟩ := Kd.at_int HR0.out x10_2 p977 q977
      cases e977
      replace hx977_0 := (HB.out.cell (World.block_lt_of_cell? w _ hx977_0)).trans hx977_0
      replace p977 := eq_true p977
      replace q977 := eq_true q977
      go_wp2_with (first | (go_at_call 115; (with_reducible refine (spec_l11Two.calls k2 x9_2 t978 _ A14.out).mono ?_); rintro e w' ⟨rfl, ⟨nd, rfl⟩⟩; (try first | exact ⟨rfl, _, World.drewN_drewN _ _ _⟩ | exact ⟨rfl, _, Eq.trans (World.drewN_drewN _ _ _) (congrArg (World.drewN _) (Nat.add_assoc _ _ _))⟩)))
      repeat (go_quiet (first | (go_at_call 115; (with_reducible refine (spec_l11Two.calls k2 x9_2 t978 _ A14.out).mono ?_); rintro e w' ⟨rfl, ⟨nd, rfl⟩⟩; (try first | exact ⟨rfl, _, World.drewN_drewN _ _ _⟩ | exact ⟨rfl, _, Eq.trans (World.drewN_drewN _ _ _) (congrArg (World.drewN _) (Nat.add_assoc _ _ _))⟩))); try go_wp2)
      go_loopg [7, 8, 9] k2 (fun kq v7 v8 v9 w' => ∃ (x7_3 : List Int) (x8_3 : Int) (x9_3 : Int), v8 = .int .i64 x8_3 ∧ v9 = .int .i64 x9_3 ∧ Aside0 (spec_Pack.l2 kq l0 a1 x7_3 x8_3 x9_3 x10_2 = some (r1, r2)) ∧ Aside0 (kq ≤ k2) ∧ Aside0 (Kd.R (Kd.int .u8) 5 w' w.heap.size (fun _ => True) v7 x7_3) ∧ Aside0 (Below w.heap.size w w'))
      case atStart => exact ⟨(x7_2), (wrap64 (x8_2 + (wrap64 ((rd l0 x10_2) * t978)))), (wrap64 (x9_2 + a1)), f0_, f0_, H', ⟨Nat.le_refl _⟩, ⟨rR_ HO_7.out⟩, ⟨hB_⟩⟩
      case round =>
       clear H'
       obtain ⟨x7_3, x8_3, x9_3, rfl, rfl, HA, HK3, HO_7, HB⟩ := hrel
       cases gk with
       | zero => exact absurd HA.out (by simp [spec_Pack.l2])
       | succ k3 =>
        have H := HA.out
        clear HA
        simp only [spec_Pack.l2] at H
        by_cases c15 : x9_3 ≥ 8
        ·rw [if_pos c15] at H
         have c15b0 := decide_eq_true c15
         clear c15
         obtain ⟨c16, H⟩ := iN_ H
         have LMc16 := Aside0.mk c16
         clear c16
         obtain ⟨y979, hy979⟩ : ∃ y_ : List Int, y_ = (x7_3 ++ [(Int.tmod x8_3 256) % 256]) := ⟨_, rfl⟩
         first | replace H := yb_ hy979 H | rw [← hy979] at H
         have Ny979 := Aside0.mk hy979
         clear hy979
         have H' := Aside0.mk H
         clear H
         go_wp2_with (first | ((with_reducible refine gate_builtin (b := .append) (xs := #[.tmp 50, .tmp 54]) rfl ?_); at_builtin; refine Kd.R_append (Kd.int .u8) (w0 := w) w.heap.size rfl (.tmp 50) (.tmp 54) 29 5 (.int .u8 0) 1 rfl Try.underlying29 info5 rfl (by decide) (by omega) u7 x7_3 ((Int.tmod x8_3 256) % 256) [.int .u8 ((Int.tmod x8_3 256) % 256)] (fun _ => True) (fun _ => False) rfl rfl ?aP (fun _ hk => hk.elim) ?aF ?aO ?aB ?aS ?aL ?_; (case aP => exact rfl); (case aB => exact (hB_)); (case aF => exact (fun _ _ => trivial)); (case aO => exact (rR_ HO_7.out)); (case aS => exact (below_size (hB_))); (case aL => have := LMc16.out; omega); intro v980 w17 ho hb hg hat; rw [← Ny979.out] at ho; have n_ := b_ (hb) <| c_ (ho); clear HO_7 HB; obtain ⟨HB, HO981⟩ := n_; clear ho hb hg hat))
         repeat (go_quiet (first | ((with_reducible refine gate_builtin (b := .append) (xs := #[.tmp 50, .tmp 54]) rfl ?_); at_builtin; refine Kd.R_append (Kd.int .u8) (w0 := w) w.heap.size rfl (.tmp 50) (.tmp 54) 29 5 (.int .u8 0) 1 rfl Try.underlying29 info5 rfl (by decide) (by omega) u7 x7_3 ((Int.tmod x8_3 256) % 256) [.int .u8 ((Int.tmod x8_3 256) % 256)] (fun _ => True) (fun _ => False) rfl rfl ?aP (fun _ hk => hk.elim) ?aF ?aO ?aB ?aS ?aL ?_; (case aP => exact rfl); (case aB => exact (hB_)); (case aF => exact (fun _ _ => trivial)); (case aO => exact (rR_ HO_7.out)); (case aS => exact (below_size (hB_))); (case aL => have := LMc16.out; omega); intro v980 w17 ho hb hg hat; rw [← Ny979.out] at ho; have n_ := b_ (hb) <| c_ (ho); clear HO_7 HB; obtain ⟨HB, HO981⟩ := n_; clear ho hb hg hat)); try go_wp2)
         go_roundg k3
         case measure => have := HK1.out; have := HK2.out; have := HK3.out; omega
         case rel => exact ⟨(y979), (wrap64 (Int.tdiv x8_3 256)), (wrap64 (x9_3 - 8)), f0_, f0_, H', ⟨by have := HK1.out; have := HK2.out; have := HK3.out; omega⟩, ⟨rR_ HO981.out⟩, ⟨hB_⟩⟩
        rw [if_neg c15] at H
        have c15b0 := decide_eq_false c15
        clear c15
        have H' := Aside0.mk H
        clear H
        go_wp2
        repeat (go_quiet (fail); try go_wp2)
        go_roundg k3
        case measure => have := HK1.out; have := HK2.out; have := HK3.out; omega
        case rel => exact ⟨(x7_3), (x8_3), (x9_3), (wrap64 (x10_2 + 1)), f0_, f0_, f0_, H', ⟨by have := HK1.out; have := HK2.out; have := HK3.out; omega⟩, ⟨rR_ HO_7.out⟩, ⟨hB_⟩⟩
 ·replace c4 := Bool.eq_false_iff.mpr c4
  subst c4
  replace H := iF_ H
  simp only [Option.some.injEq, Prod.mk.injEq] at H
  obtain ⟨rfl, rfl⟩ := H
  go_enter Try.func91, Try.ntmps91
  go_wp2_with (first | (go_at_call 70; (with_reducible refine (spec_l01In.calls a1 1 12 false _ A3.out).mono ?_); rintro e w' ⟨rfl, ⟨nd, rfl⟩⟩; (try first | exact ⟨rfl, _, World.drewN_drewN _ _ _⟩ | exact ⟨rfl, _, Eq.trans (World.drewN_drewN _ _ _) (congrArg (World.drewN _) (Nat.add_assoc _ _ _))⟩)))
  repeat (go_quiet (first | (go_at_call 70; (with_reducible refine (spec_l01In.calls a1 1 12 false _ A3.out).mono ?_); rintro e w' ⟨rfl, ⟨nd, rfl⟩⟩; (try first | exact ⟨rfl, _, World.drewN_drewN _ _ _⟩ | exact ⟨rfl, _, Eq.trans (World.drewN_drewN _ _ _) (congrArg (World.drewN _) (Nat.add_assoc _ _ _))⟩))); try go_wp2)
  go_ret2
  exact ⟨f1_, hB_⟩

/-! ### spec_l13Squeezed: function 57 -/
def spec_l13Squeezed.l0 : Nat → List Int → Int → List Int → Int → Option (ByteArray)
 | 0, _, _, _, _ => none
 | k + 1, x0, x1, x5, x6 => if x6 < (x0.length : Int) then (if 0 ≤ x6 then ((spec_Squeeze.f k (rd x0 x6) x1).bind fun t986 => (if x5.length < 17592186044416 then (spec_l13Squeezed.l0 k x0 x1 (x5 ++ [t986]) (wrap64 (x6 + 1))) else (none))) else (none)) else ((spec_Pack.f k x5 x1).bind fun bt990 => (some bt990.1))
def spec_l13Squeezed.f (k : Nat) (l0 : List Int) (a1 : Int) : Option (ByteArray) := spec_l13Squeezed.l0 k l0 a1 (([] : List Int)) 0
theorem spec_l13Squeezed.mono_l : ∀ k, (∀ y0 y1 y2 y3, LeO (spec_l13Squeezed.l0 k y0 y1 y2 y3) (spec_l13Squeezed.l0 (k + 1) y0 y1 y2 y3))
 | 0 => fun _ _ _ _ r h => by simp [spec_l13Squeezed.l0] at h
 | k + 1 => by
  have ih0 := spec_l13Squeezed.mono_l k
  intros; unfold spec_l13Squeezed.l0; exact o3_ ih0 spec_Pack.mono spec_Squeeze.mono
theorem spec_l13Squeezed.mono : ∀ a0 a1 k, LeO (spec_l13Squeezed.f k a0 a1) (spec_l13Squeezed.f (k + 1) a0 a1) := by
 intro a0 a1 k
 have ih0 := spec_l13Squeezed.mono_l k
 unfold spec_l13Squeezed.f
 exact o3_ ih0 spec_Pack.mono spec_Squeeze.mono
theorem spec_l13Squeezed.calls (k : Nat) (A0 : Option Addr) (c0 : Nat) (l0 : List Int) (a1 : Int) (r : ByteArray) (w : World) (hr0 : Kd.C (Kd.int .i64) w A0 l0.length l0) (hc0 : l0.length ≤ c0) (h : spec_l13Squeezed.f k l0 a1 = some r) :
  Calls Try.prog 57 #[.slice A0 l0.length c0, .int .i64 a1] w fun e w' => e = .returned (.string r) ∧ Below w.heap.size w w' := by
 have HR0 := Aside0.mk hr0
 have HC0 := Aside0.mk hc0
 clear hr0 hc0
 have HB := Aside0.mk (Below.refl w.heap.size w)
 delta spec_l13Squeezed.f at h
 have H := h
 clear h
 obtain ⟨y982, hy982⟩ : ∃ y_ : List Int, y_ = (([] : List Int)) := ⟨_, rfl⟩
 first | replace H := yb_ hy982 H | rw [← hy982] at H
 have Ny982 := Aside0.mk hy982
 clear hy982
 have H' := Aside0.mk H
 clear H
 go_enter Try.func57, Try.ntmps57
 go_wp2_with (first | ((with_reducible refine gate_dst (N := 9) rfl ?_); refine Kd.R_lit (Kd.int .i64) _ 3 ?hg (N := 9) ?hd (xs := ([] : List Int)) (inner := []) (ok := fun _ => True) (okp := fun _ => True) ?hr ?hp (fun _ hk => hk) trivial (Below.refl _ _) (Nat.le_refl _) (by simp) ?_; (case hd => rfl); (case hg => rfl); (case hr => first | (go_simp; done) | (go_simp; rfl)); (case hp => exact (Reps.none _ _)); intro v983 w3 ho4 hb hg_ hnew_; clear hg_ hnew_; (first | rw [← Ny982.out] at ho4 | (simp only [Int.reduceToNat] at ho4; rw [← Ny982.out] at ho4)); have n_ := b_ (Kd.R_lower ho4 (below_size (hB_))) <| c_ (below_step (hB_) hb); clear HB; obtain ⟨HO984, HB⟩ := n_; clear hb ho4))
 go_loopg [5, 6] k (fun kq v5 v6 w' => ∃ (x5_1 : List Int) (x6_1 : Int), v6 = .int .i64 x6_1 ∧ Aside0 (spec_l13Squeezed.l0 kq l0 a1 x5_1 x6_1 = some r) ∧ Aside0 (kq ≤ k) ∧ Aside0 (Kd.R (Kd.int .i64) 3 w' w.heap.size (fun _ => True) v5 x5_1) ∧ Aside0 (Below w.heap.size w w'))
 case atStart => exact ⟨(y982), (0), f0_, H', ⟨Nat.le_refl _⟩, ⟨rR_ HO984.out⟩, ⟨hB_⟩⟩
 case round =>
  clear H'
  obtain ⟨x5_1, x6_1, rfl, HA, HK1, HO_5, HB⟩ := hrel
  cases gk with
  | zero => exact absurd HA.out (by simp [spec_l13Squeezed.l0])
  | succ k1 =>
   have H := HA.out
   clear HA
   simp only [spec_l13Squeezed.l0] at H
   by_cases c5 : x6_1 < (l0.length : Int)
   ·rw [if_pos c5] at H
    have c5b0 := decide_eq_true c5
    clear c5
    obtain ⟨c6b0, H⟩ := iD_ H
    obtain ⟨t986, A7, H⟩ := bN_ H
    obtain ⟨c8, H⟩ := iN_ H
    have LMc8 := Aside0.mk c8
    clear c8
    obtain ⟨y987, hy987⟩ : ∃ y_ : List Int, y_ = (x5_1 ++ [t986]) := ⟨_, rfl⟩
    first | replace H := yb_ hy987 H | rw [← hy987] at H
    have Ny987 := Aside0.mk hy987
    clear hy987
    have H' := Aside0.mk H
    clear H
    have p985 : 0 ≤ (x6_1 : Int) := oD_
    have q985 : x6_1 < (l0.length : Int) := oD_
    obtain ⟨ad985, e985, hx985_0⟩ := Kd.at_int HR0.out x6_1 p985 q985
    cases e985
    replace hx985_0 := (HB.out.cell (World.block_lt_of_cell? w _ hx985_0)).trans hx985_0
    replace p985 := eq_true p985
    replace q985 := eq_true q985
    go_wp2_with (first | ((with_reducible refine gate_callee (f := 90) rfl ?_); refine goesL_ (some 22) rfl rfl Try.func90 (by kernel_rfl) rfl #[.int .i64 (rd l0 x6_1), .int .i64 a1] rfl aM_ ?_; (with_reducible refine (spec_Squeeze.calls k1 (rd l0 x6_1) a1 t986 _ A7.out).mono ?_); rintro e w' ⟨rfl, ⟨nd, rfl⟩⟩; refine ⟨_, rfl, ?_⟩) | ((with_reducible refine gate_builtin (b := .append) (xs := #[.tmp 16, .tmp 23]) rfl ?_); at_builtin; refine Kd.R_append (Kd.int .i64) (w0 := w) w.heap.size rfl (.tmp 16) (.tmp 23) 22 3 (.int .i64 0) 8 rfl Try.underlying22 info3 rfl (by decide) (by omega) u5 x5_1 t986 [.int .i64 t986] (fun _ => True) (fun _ => False) rfl rfl ?aP (fun _ hk => hk.elim) ?aF ?aO ?aB ?aS ?aL ?_; (case aP => exact rfl); (case aB => exact (hB_)); (case aF => exact (fun _ _ => trivial)); (case aO => exact (rR_ HO_5.out)); (case aS => exact (below_size (hB_))); (case aL => have := LMc8.out; omega); intro v988 w9 ho hb hg hat; rw [← Ny987.out] at ho; have n_ := b_ (hb) <| c_ (ho); clear HO_5 HB; obtain ⟨HB, HO989⟩ := n_; clear ho hb hg hat))
    go_roundg k1
    case measure => have := HK1.out; omega
    case rel => exact ⟨(y987), (wrap64 (x6_1 + 1)), f0_, H', ⟨by have := HK1.out; omega⟩, ⟨rR_ HO989.out⟩, ⟨hB_⟩⟩
   rw [if_neg c5] at H
   have c5b0 := decide_eq_false c5
   clear c5
   obtain ⟨⟨t990, t991⟩, A10, H⟩ := bN_ H
   obtain rfl := Option.some.inj H
   obtain ⟨Ao11, co11, eo11⟩ := Kd.R_slice HO_5.out
   subst eo11
   go_wp2_with (first | ((with_reducible refine gate_callee (f := 91) rfl ?_); refine goesL_ (some 28) rfl rfl Try.func91 (by kernel_rfl) rfl #[.slice Ao11 x5_1.length co11, .int .i64 a1] rfl aM_ ?_; (with_reducible refine (spec_Pack.calls k1 _ _ x5_1 a1 t990 t991 _ ?side1 ?side2 A10.out).mono ?_); (case side1 => exact cR_ (Kd.R_reads' HO_5.out).2.2); (case side2 => exact (Kd.R_reads' HO_5.out).2.1); rintro e w12 ⟨rfl, hb⟩; refine ⟨_, rfl, ?_⟩; have n_ := b_ (Kd.R_below (rR_ HO_5.out) hb) <| c_ (below_step (hB_) hb); clear HO_5 HB; obtain ⟨HO_5, HB⟩ := n_; (try clear hb)))
   go_ret
   exact ⟨f1_, hB_⟩

/-! ### spec_Stretch: function 92 -/
def spec_Stretch.j0 : Nat → Int → Int → Bool → Option (Int)
 | 0, _, _, _ => none
 | k + 1, x0, x1, x15 => if x15 = true then (some 0) else ((spec_l11Two.f k (wrap64 (x1 - 1))).bind fun t995 => ((spec_l11Two.f k x1).bind fun t996 => (if t996 = 0 then (none) else (some (wrap64 (Int.tdiv (wrap64 ((wrap64 (3329 * x0)) + t995)) t996))))))
def spec_Stretch.f (k : Nat) (a0 : Int) (a1 : Int) : Option (Int) := (spec_l01In.f a1 1 11).bind fun t992 => (if t992 = true then ((spec_l11Two.f k a1).bind fun t993 => ((spec_l01In.f a0 0 (wrap64 (t993 - 1))).bind fun t994 => (spec_Stretch.j0 k a0 a1 (!t994)))) else (spec_Stretch.j0 k a0 a1 true))
theorem spec_Stretch.mono_l : ∀ k, (∀ y0 y1 y2, LeO (spec_Stretch.j0 k y0 y1 y2) (spec_Stretch.j0 (k + 1) y0 y1 y2))
 | 0 => fun _ _ _ r h => by simp [spec_Stretch.j0] at h
 | k + 1 => by
  have ih0 := spec_Stretch.mono_l k
  intros; unfold spec_Stretch.j0; exact o2_ ih0 spec_l11Two.mono
theorem spec_Stretch.mono : ∀ a0 a1 k, LeO (spec_Stretch.f k a0 a1) (spec_Stretch.f (k + 1) a0 a1) := by
 intro a0 a1 k
 have ih0 := spec_Stretch.mono_l k
 unfold spec_Stretch.f
 exact o2_ ih0 spec_l11Two.mono
theorem spec_Stretch.calls (k : Nat) (a0 : Int) (a1 : Int) (r : Int) (w : World) (h : spec_Stretch.f k a0 a1 = some r) :
  Calls Try.prog 92 #[.int .i64 a0, .int .i64 a1] w fun e w' => e = .returned (.int .i64 r) ∧ Drawn0 w w' := by
 delta spec_Stretch.f at h
 have H := h
 clear h
 have HC3 := Aside0.mk H
 clear H
 go_enter Try.func92, Try.ntmps92
 go_upto_region 1 with (fail)
 go_cut [15] (fun v15 wc => ∃ (kq : Nat) (x15_2 : Bool), v15 = .bool x15_2 ∧ Aside0 (spec_Stretch.j0 kq a0 a1 x15_2 = some r) ∧ Aside0 (kq ≤ k) ∧ Drawn0 w wc)
 case first =>
  have H := HC3.out
  clear HC3
  obtain ⟨t992, A4, H⟩ := bN_ H
  by_cases c5 : t992 = true
  ·subst c5
   replace H := iT_ H
   obtain ⟨t993, A6, H⟩ := bN_ H
   obtain ⟨t994, A7, H⟩ := bN_ H
   have H' := Aside0.mk H
   clear H
   go_wp2_with (first | ((with_reducible refine gate_callee (f := 70) rfl ?_); refine goesL_ (some 6) rfl rfl Try.func70 (by kernel_rfl) rfl #[.int .i64 a1, .int .i64 1, .int .i64 11] rfl aM_ ?_; (with_reducible refine (spec_l01In.calls a1 1 11 true _ A4.out).mono ?_); rintro e w' ⟨rfl, ⟨nd, rfl⟩⟩; refine ⟨_, rfl, ?_⟩) | (go_at_call 115; (with_reducible refine (spec_l11Two.calls k a1 t993 _ A6.out).mono ?_); rintro e w' ⟨rfl, ⟨nd, rfl⟩⟩) | (go_at_call 70; (with_reducible refine (spec_l01In.calls a0 0 (wrap64 (t993 - 1)) t994 _ A7.out).mono ?_); rintro e w' ⟨rfl, ⟨nd, rfl⟩⟩))
   go_meet
   case rel => exact ⟨_, (!t994), f0_, H', ⟨by first | omega | exact Nat.le_refl _⟩, d0_⟩
  ·replace c5 := Bool.eq_false_iff.mpr c5
   subst c5
   replace H := iF_ H
   have H' := Aside0.mk H
   clear H
   go_wp2_with (first | ((with_reducible refine gate_callee (f := 70) rfl ?_); refine goesL_ (some 6) rfl rfl Try.func70 (by kernel_rfl) rfl #[.int .i64 a1, .int .i64 1, .int .i64 11] rfl aM_ ?_; (with_reducible refine (spec_l01In.calls a1 1 11 false _ A4.out).mono ?_); rintro e w' ⟨rfl, ⟨nd, rfl⟩⟩; refine ⟨_, rfl, ?_⟩))
   go_meet
   case rel => exact ⟨_, (true), f0_, H', ⟨by first | omega | exact Nat.le_refl _⟩, d0_⟩
 case rest =>
  clear HC3
  obtain ⟨kq, x15_2, rfl, HA, HJ2, ⟨mc2, rfl⟩⟩ := hcut
  cases kq with
  | zero => exact absurd HA.out (by simp [spec_Stretch.j0])
  | succ kj2 =>
   have H := HA.out
   clear HA
   simp only [spec_Stretch.j0] at H
   by_cases c8 : x15_2 = true
   ·subst c8
    replace H := iT_ H
    obtain rfl := Option.some.inj H
    go_wp2
    go_ret
    exact ⟨f0_, d0_⟩
   ·replace c8 := Bool.eq_false_iff.mpr c8
    subst c8
    replace H := iF_ H
    obtain ⟨t995, A9, H⟩ := bN_ H
    obtain ⟨t996, A10, H⟩ := bN_ H
    by_cases c11 : t996 = 0
    ·rw [if_pos c11] at H
     exact absurd H (by simp)
    rw [if_neg c11] at H
    have c11b0 : (t996 == 0) = false := beq_eq_false_iff_ne.mpr c11
    have c11b1 : (t996 != 0) = true := bne_iff_ne.mpr c11
    obtain rfl := Option.some.inj H
    go_wp2_with (first | ((with_reducible refine gate_callee (f := 115) rfl ?_); refine goesL_ (some 20) rfl rfl Try.func115 (by kernel_rfl) rfl #[.int .i64 (wrap64 (a1 - 1))] rfl aM_ ?_; (with_reducible refine (spec_l11Two.calls kj2 (wrap64 (a1 - 1)) t995 _ A9.out).mono ?_); rintro e w' ⟨rfl, ⟨nd, rfl⟩⟩; refine ⟨_, rfl, ?_⟩) | ((with_reducible refine gate_callee (f := 115) rfl ?_); refine goesL_ (some 23) rfl rfl Try.func115 (by kernel_rfl) rfl #[.int .i64 a1] rfl aM_ ?_; (with_reducible refine (spec_l11Two.calls kj2 a1 t996 _ A10.out).mono ?_); rintro e w' ⟨rfl, ⟨nd, rfl⟩⟩; refine ⟨_, rfl, ?_⟩))
    go_ret
    exact ⟨f0_, d0_⟩

/-! ### spec_l13Bits: function 58 -/
mutual
def spec_l13Bits.l0 : Nat → ByteArray → List Int → Int → Option (List Int)
 | 0, _, _, _ => none
 | k + 1, x0, x3, x4 => if x4 < 256 then (if 0 ≤ (wrap64 (Int.tdiv x4 8)) then (if (wrap64 (Int.tdiv x4 8)) < (x0.size : Int) then (spec_l13Bits.l1 k x0 x3 x4 (wrap64 (bt x0 (wrap64 (Int.tdiv x4 8)))) 0) else (none)) else (none)) else (some x3)
def spec_l13Bits.l1 : Nat → ByteArray → List Int → Int → Int → Int → Option (List Int)
 | 0, _, _, _, _, _ => none
 | k + 1, x0, x3, x4, x5, x6 => if x6 < (Int.tmod x4 8) then (spec_l13Bits.l1 k x0 x3 x4 (wrap64 (Int.tdiv x5 2)) (wrap64 (x6 + 1))) else ((spec_Stretch.f k (Int.tmod x5 2) 1).bind fun t1000 => (if x3.length < 17592186044416 then (spec_l13Bits.l0 k x0 (x3 ++ [t1000]) (wrap64 (x4 + 1))) else (none)))
end
def spec_l13Bits.f (k : Nat) (a0 : ByteArray) : Option (List Int) := spec_l13Bits.l0 k a0 (([] : List Int)) 0
theorem spec_l13Bits.mono_l : ∀ k, (∀ y0 y1 y2, LeO (spec_l13Bits.l0 k y0 y1 y2) (spec_l13Bits.l0 (k + 1) y0 y1 y2)) ∧ (∀ y0 y1 y2 y3 y4, LeO (spec_l13Bits.l1 k y0 y1 y2 y3 y4) (spec_l13Bits.l1 (k + 1) y0 y1 y2 y3 y4))
 | 0 => ⟨fun _ _ _ r h => by simp [spec_l13Bits.l0] at h, fun _ _ _ _ _ r h => by simp [spec_l13Bits.l1] at h⟩
 | k + 1 => by
  obtain ⟨ih0, ih1⟩ := spec_l13Bits.mono_l k
  refine ⟨?_, ?_⟩ <;> (intros; (first | unfold spec_l13Bits.l0 | unfold spec_l13Bits.l1); exact o3_ ih0 ih1 spec_Stretch.mono)
theorem spec_l13Bits.mono : ∀ a0 k, LeO (spec_l13Bits.f k a0) (spec_l13Bits.f (k + 1) a0) := by
 intro a0 k
 obtain ⟨ih0, ih1⟩ := spec_l13Bits.mono_l k
 unfold spec_l13Bits.f
 exact o3_ ih0 ih1 spec_Stretch.mono
theorem spec_l13Bits.calls (k : Nat) (a0 : ByteArray) (r : List Int) (w : World) (h : spec_l13Bits.f k a0 = some r) :
  Calls Try.prog 58 #[.string a0] w fun e w' => ∃ v0_ : Value, e = .returned (v0_) ∧ Kd.R (Kd.int .i64) 3 w' w.heap.size (fun _ => True) v0_ r ∧ Below w.heap.size w w' := by
 have HB := Aside0.mk (Below.refl w.heap.size w)
 delta spec_l13Bits.f at h
 have H := h
 clear h
 obtain ⟨y997, hy997⟩ : ∃ y_ : List Int, y_ = (([] : List Int)) := ⟨_, rfl⟩
 first | replace H := yb_ hy997 H | rw [← hy997] at H
 have Ny997 := Aside0.mk hy997
 clear hy997
 have H' := Aside0.mk H
 clear H
 go_enter Try.func58, Try.ntmps58
 go_wp2_with (first | ((with_reducible refine gate_dst (N := 7) rfl ?_); refine Kd.R_lit (Kd.int .i64) _ 3 ?hg (N := 7) ?hd (xs := ([] : List Int)) (inner := []) (ok := fun _ => True) (okp := fun _ => True) ?hr ?hp (fun _ hk => hk) trivial (Below.refl _ _) (Nat.le_refl _) (by simp) ?_; (case hd => rfl); (case hg => rfl); (case hr => first | (go_simp; done) | (go_simp; rfl)); (case hp => exact (Reps.none _ _)); intro v998 w2 ho3 hb hg_ hnew_; clear hg_ hnew_; (first | rw [← Ny997.out] at ho3 | (simp only [Int.reduceToNat] at ho3; rw [← Ny997.out] at ho3)); have n_ := b_ (Kd.R_lower ho3 (below_size (hB_))) <| c_ (below_step (hB_) hb); clear HB; obtain ⟨HO999, HB⟩ := n_; clear hb ho3))
 go_loopg [3, 4] k (fun kq v3 v4 w' => ∃ (x3_1 : List Int) (x4_1 : Int), v4 = .int .i64 x4_1 ∧ Aside0 (spec_l13Bits.l0 kq a0 x3_1 x4_1 = some r) ∧ Aside0 (kq ≤ k) ∧ Aside0 (Kd.R (Kd.int .i64) 3 w' w.heap.size (fun _ => True) v3 x3_1) ∧ Aside0 (Below w.heap.size w w'))
 case atStart => exact ⟨(y997), (0), f0_, H', ⟨Nat.le_refl _⟩, ⟨rR_ HO999.out⟩, ⟨hB_⟩⟩
 case round =>
  clear H'
  obtain ⟨x3_1, x4_1, rfl, HA, HK1, HO_3, HB⟩ := hrel
  cases gk with
  | zero => exact absurd HA.out (by simp [spec_l13Bits.l0])
  | succ k1 =>
   have H := HA.out
   clear HA
   simp only [spec_l13Bits.l0] at H
   by_cases c4 : x4_1 < 256
   rotate_left
   ·rw [if_neg c4] at H
    have c4b0 := decide_eq_false c4
    clear c4
    obtain rfl := Option.some.inj H
    go_wp2
    go_ret
    exact ⟨_, f1_, rR_ HO_3.out, hB_⟩
   rw [if_pos c4] at H
   have c4b0 := decide_eq_true c4
   clear c4
   obtain ⟨ji5, hji5⟩ : ∃ j_ : Int, (wrap64 (Int.tdiv x4_1 8)) = j_ := ⟨_, rfl⟩
   first | rw [hji5] at H | simp only [hji5] at H
   have hji5w : (IntKind.i64.wrap (Int.tdiv x4_1 8)) = ji5 := (i64_w _).trans hji5
   obtain ⟨c6b0, H⟩ := iD_ H
   obtain ⟨c7b0, H⟩ := iD_ H
   have H' := Aside0.mk H
   clear H
   have p8 := eq_true (oD_ : 0 ≤ ((ji5) : Int))
   have q8 := eq_true (oD_ : (ji5) < (a0.size : Int))
   have hx8 := bt_at a0 (ji5)
   go_wp2
   go_loopg [5, 6] k1 (fun kq v5 v6 w' => ∃ (x5_2 : Int) (x6_2 : Int), v5 = .int .i64 x5_2 ∧ v6 = .int .i64 x6_2 ∧ Aside0 (spec_l13Bits.l1 kq a0 x3_1 x4_1 x5_2 x6_2 = some r) ∧ Aside0 (kq ≤ k1) ∧ Aside0 (Kd.R (Kd.int .i64) 3 w' w.heap.size (fun _ => True) u3 x3_1) ∧ Aside0 (Below w.heap.size w w'))
   case atStart => exact ⟨(wrap64 (bt a0 (ji5))), (0), (by first | rfl | (simp; done) | (simp only [← hji5] <;> (first | rfl | simp)) | (simp [*]; done)), f0_, H', ⟨Nat.le_refl _⟩, ⟨rR_ HO_3.out⟩, ⟨hB_⟩⟩
   case round =>
    clear H'
    obtain ⟨x5_2, x6_2, rfl, rfl, HA, HK2, HO_3, HB⟩ := hrel
    cases gk with
    | zero => exact absurd HA.out (by simp [spec_l13Bits.l1])
    | succ k2 =>
     have H := HA.out
     clear HA
     simp only [spec_l13Bits.l1] at H
     by_cases c9 : x6_2 < (Int.tmod x4_1 8)
     ·rw [if_pos c9] at H
      have c9b0 := decide_eq_true c9
      clear c9
      have H' := Aside0.mk H
      clear H
      go_wp2
      go_roundg k2
      case measure => have := HK1.out; have := HK2.out; omega
      case rel => exact ⟨(wrap64 (Int.tdiv x5_2 2)), (wrap64 (x6_2 + 1)), f0_, f0_, H', ⟨by have := HK1.out; have := HK2.out; omega⟩, ⟨rR_ HO_3.out⟩, ⟨hB_⟩⟩
     rw [if_neg c9] at H
     have c9b0 := decide_eq_false c9
     clear c9
     obtain ⟨t1000, A10, H⟩ := bN_ H
     obtain ⟨c11, H⟩ := iN_ H
     have LMc11 := Aside0.mk c11
     clear c11
     obtain ⟨y1001, hy1001⟩ : ∃ y_ : List Int, y_ = (x3_1 ++ [t1000]) := ⟨_, rfl⟩
     first | replace H := yb_ hy1001 H | rw [← hy1001] at H
     have Ny1001 := Aside0.mk hy1001
     clear hy1001
     have H' := Aside0.mk H
     clear H
     go_wp2_with (first | ((with_reducible refine gate_callee (f := 92) rfl ?_); refine goesL_ (some 28) rfl rfl Try.func92 (by kernel_rfl) rfl #[.int .i64 (Int.tmod x5_2 2), .int .i64 1] rfl aM_ ?_; (with_reducible refine (spec_Stretch.calls k2 (Int.tmod x5_2 2) 1 t1000 _ A10.out).mono ?_); rintro e w' ⟨rfl, ⟨nd, rfl⟩⟩; refine ⟨_, rfl, ?_⟩) | ((with_reducible refine gate_builtin (b := .append) (xs := #[.tmp 25, .tmp 29]) rfl ?_); at_builtin; refine Kd.R_append (Kd.int .i64) (w0 := w) w.heap.size rfl (.tmp 25) (.tmp 29) 22 3 (.int .i64 0) 8 rfl Try.underlying22 info3 rfl (by decide) (by omega) u3 x3_1 t1000 [.int .i64 t1000] (fun _ => True) (fun _ => False) rfl rfl ?aP (fun _ hk => hk.elim) ?aF ?aO ?aB ?aS ?aL ?_; (case aP => exact rfl); (case aB => exact (hB_)); (case aF => exact (fun _ _ => trivial)); (case aO => exact (rR_ HO_3.out)); (case aS => exact (below_size (hB_))); (case aL => have := LMc11.out; omega); intro v1002 w12 ho hb hg hat; rw [← Ny1001.out] at ho; have n_ := b_ (hb) <| c_ (ho); clear HO_3 HB; obtain ⟨HB, HO1003⟩ := n_; clear ho hb hg hat))
     go_roundg k2
     case measure => have := HK1.out; have := HK2.out; omega
     case rel => exact ⟨(y1001), (wrap64 (x4_1 + 1)), f0_, H', ⟨by have := HK1.out; have := HK2.out; omega⟩, ⟨rR_ HO1003.out⟩, ⟨hB_⟩⟩

/-! ### impl_roundBit: function 131 -/
def impl_roundBit.l0 : Nat → Int → Int → Int → Option (Int)
 | 0, _, _, _ => none
 | k + 1, x3, x4, x5 => if x5 < x4 then (if (wrap64 (x3 * 2)) ≥ 256 then (impl_roundBit.l0 k (Go.bits .and .i64 (Go.bits .xor .i64 (wrap64 (x3 * 2)) 113) 255) x4 (wrap64 (x5 + 1))) else (impl_roundBit.l0 k (wrap64 (x3 * 2)) x4 (wrap64 (x5 + 1)))) else (some (IntKind.u64.wrap (Go.bits .and .i64 x3 1)))
def impl_roundBit.f (k : Nat) (a0 : Int) : Option (Int) := impl_roundBit.l0 k 1 a0 0
theorem impl_roundBit.mono_l : ∀ k, (∀ y0 y1 y2, LeO (impl_roundBit.l0 k y0 y1 y2) (impl_roundBit.l0 (k + 1) y0 y1 y2))
 | 0 => fun _ _ _ r h => by simp [impl_roundBit.l0] at h
 | k + 1 => by
  have ih0 := impl_roundBit.mono_l k
  intros; unfold impl_roundBit.l0; exact o1_ ih0
theorem impl_roundBit.mono : ∀ a0 k, LeO (impl_roundBit.f k a0) (impl_roundBit.f (k + 1) a0) := by
 intro a0 k
 have ih0 := impl_roundBit.mono_l k
 unfold impl_roundBit.f
 exact o1_ ih0
theorem impl_roundBit.calls (k : Nat) (a0 : Int) (r : Int) (w : World) (h : impl_roundBit.f k a0 = some r) :
  Calls Try.prog 131 #[.int .i64 a0] w fun e w' => e = .returned (.int .u64 r) ∧ Drawn0 w w' := by
 delta impl_roundBit.f at h
 have H := h
 clear h
 have H' := Aside0.mk H
 clear H
 go_enter Try.func131, Try.ntmps131
 go_wp2
 go_loopg [3, 5] k (fun kq v3 v5 w' => ∃ (x3_1 : Int) (x5_1 : Int), v3 = .int .i64 x3_1 ∧ v5 = .int .i64 x5_1 ∧ Aside0 (impl_roundBit.l0 kq x3_1 a0 x5_1 = some r) ∧ Aside0 (kq ≤ k) ∧ Drawn0 w w')
 case atStart => exact ⟨(1), (0), f0_, f0_, H', ⟨Nat.le_refl _⟩, d0_⟩
 case round =>
  clear H'
  obtain ⟨x3_1, x5_1, rfl, rfl, HA, HK1, ⟨m1, rfl⟩⟩ := hrel
  cases gk with
  | zero => exact absurd HA.out (by simp [impl_roundBit.l0])
  | succ k1 =>
   have H := HA.out
   clear HA
   simp only [impl_roundBit.l0] at H
   by_cases c2 : x5_1 < a0
   ·rw [if_pos c2] at H
    have c2b0 := decide_eq_true c2
    clear c2
    by_cases c3 : (wrap64 (x3_1 * 2)) ≥ 256
    ·rw [if_pos c3] at H
     have c3b0 := decide_eq_true c3
     clear c3
     have H' := Aside0.mk H
     clear H
     go_wp2
     go_roundg k1
     case measure => have := HK1.out; omega
     case rel => exact ⟨(Go.bits .and .i64 (Go.bits .xor .i64 (wrap64 (x3_1 * 2)) 113) 255), (wrap64 (x5_1 + 1)), f0_, f0_, H', ⟨by have := HK1.out; omega⟩, d0_⟩
    rw [if_neg c3] at H
    have c3b0 := decide_eq_false c3
    clear c3
    have H' := Aside0.mk H
    clear H
    go_wp2
    go_roundg k1
    case measure => have := HK1.out; omega
    case rel => exact ⟨(wrap64 (x3_1 * 2)), (wrap64 (x5_1 + 1)), f0_, f0_, H', ⟨by have := HK1.out; omega⟩, d0_⟩
   rw [if_neg c2] at H
   have c2b0 := decide_eq_false c2
   clear c2
   obtain rfl := Option.some.inj H
   go_wp2
   go_ret
   exact ⟨f0_, d0_⟩

/-! ### impl_roundLane: function 123 -/
def impl_roundLane.l0 : Nat → Int → Int → Int → Option (Int)
 | 0, _, _, _ => none
 | k + 1, x0, x3, x5 => if x5 < 7 then ((impl_roundBit.f k (wrap64 (x5 + (wrap64 (7 * x0))))).bind fun t1063 => (if 0 ≤ x5 then (if 0 ≤ (IntKind.u64.wrap ((shl .u64 1 x5) - 1)) then (impl_roundLane.l0 k x0 (Go.bits .or .u64 x3 (shl .u64 t1063 (IntKind.u64.wrap ((shl .u64 1 x5) - 1)))) (wrap64 (x5 + 1))) else (none)) else (none))) else (some x3)
def impl_roundLane.f (k : Nat) (a0 : Int) : Option (Int) := impl_roundLane.l0 k a0 0 0
theorem impl_roundLane.mono_l : ∀ k, (∀ y0 y1 y2, LeO (impl_roundLane.l0 k y0 y1 y2) (impl_roundLane.l0 (k + 1) y0 y1 y2))
 | 0 => fun _ _ _ r h => by simp [impl_roundLane.l0] at h
 | k + 1 => by
  have ih0 := impl_roundLane.mono_l k
  intros; unfold impl_roundLane.l0; exact o2_ ih0 impl_roundBit.mono
theorem impl_roundLane.mono : ∀ a0 k, LeO (impl_roundLane.f k a0) (impl_roundLane.f (k + 1) a0) := by
 intro a0 k
 have ih0 := impl_roundLane.mono_l k
 unfold impl_roundLane.f
 exact o2_ ih0 impl_roundBit.mono
theorem impl_roundLane.calls (k : Nat) (a0 : Int) (r : Int) (w : World) (h : impl_roundLane.f k a0 = some r) :
  Calls Try.prog 123 #[.int .i64 a0] w fun e w' => e = .returned (.int .u64 r) ∧ Drawn0 w w' := by
 delta impl_roundLane.f at h
 have H := h
 clear h
 have H' := Aside0.mk H
 clear H
 go_enter Try.func123, Try.ntmps123
 go_wp2
 repeat (go_quiet (fail); try go_wp2)
 go_loopg [3, 5] k (fun kq v3 v5 w' => ∃ (x3_1 : Int) (x5_1 : Int), v3 = .int .u64 x3_1 ∧ v5 = .int .i64 x5_1 ∧ Aside0 (impl_roundLane.l0 kq a0 x3_1 x5_1 = some r) ∧ Aside0 (kq ≤ k) ∧ Drawn0 w w')
 case atStart => exact ⟨(0), (0), f0_, f0_, H', ⟨Nat.le_refl _⟩, d0_⟩
 case round =>
  clear H'
  obtain ⟨x3_1, x5_1, rfl, rfl, HA, HK1, ⟨m1, rfl⟩⟩ := hrel
  cases gk with
  | zero => exact absurd HA.out (by simp [impl_roundLane.l0])
  | succ k1 =>
   have H := HA.out
   clear HA
   simp only [impl_roundLane.l0] at H
   by_cases c2 : x5_1 < 7
   rotate_left
   ·rw [if_neg c2] at H
    have c2b0 := decide_eq_false c2
    clear c2
    obtain rfl := Option.some.inj H
    go_wp2
    repeat (go_quiet (fail); try go_wp2)
    go_ret
    exact ⟨f0_, d0_⟩
   rw [if_pos c2] at H
   have c2b0 := decide_eq_true c2
   clear c2
   obtain ⟨t1063, A3, H⟩ := bN_ H
   obtain ⟨c4, H⟩ := iN_ H
   have c4b0 := eq_true c4
   have c4b1 := decide_eq_true c4
   clear c4
   obtain ⟨ji5, hji5⟩ : ∃ j_ : Int, (shl .u64 1 x5_1) = j_ := ⟨_, rfl⟩
   first | rw [hji5] at H | simp only [hji5] at H
   (try rw [hji5] at A3)
   have hji5_ : (IntKind.u64.wrap (1 * 2 ^ min x5_1.toNat 64)) = ji5 := hji5
   have hji5z : x5_1 ≤ 64 → (IntKind.u64.wrap (1 * 2 ^ x5_1.toNat)) = ji5 := shl_small hji5
   have hji5u : (IntKind.u64.wrap (2 ^ min x5_1.toNat 64)) = ji5 := by have h_ := hji5_; rw [Int.one_mul] at h_; exact h_
   have hji5v : x5_1 ≤ 64 → (IntKind.u64.wrap (2 ^ x5_1.toNat)) = ji5 := fun hle_ => by have h_ := hji5z hle_; rw [Int.one_mul] at h_; exact h_
   obtain ⟨ji6, hji6⟩ : ∃ j_ : Int, (IntKind.u64.wrap ((ji5) - 1)) = j_ := ⟨_, rfl⟩
   first | rw [hji6] at H | simp only [hji6] at H
   (try rw [hji6] at A3)
   obtain ⟨c7, H⟩ := iN_ H
   have c7b0 := eq_true c7
   have c7b1 := decide_eq_true c7
   clear c7
   obtain ⟨ji8, hji8⟩ : ∃ j_ : Int, (shl .u64 t1063 (ji6)) = j_ := ⟨_, rfl⟩
   first | rw [hji8] at H | simp only [hji8] at H
   (try rw [hji8] at A3)
   have hji8_ : (IntKind.u64.wrap (t1063 * 2 ^ min (ji6).toNat 64)) = ji8 := hji8
   have hji8z : (ji6) ≤ 64 → (IntKind.u64.wrap (t1063 * 2 ^ (ji6).toNat)) = ji8 := shl_small hji8
   have H' := Aside0.mk H
   clear H
   go_wp2_with (first | (go_at_call 131; (with_reducible refine (impl_roundBit.calls k1 (wrap64 (x5_1 + (wrap64 (7 * a0)))) t1063 _ A3.out).mono ?_); rintro e w' ⟨rfl, ⟨nd, rfl⟩⟩; (try first | exact ⟨rfl, _, World.drewN_drewN _ _ _⟩ | exact ⟨rfl, _, Eq.trans (World.drewN_drewN _ _ _) (congrArg (World.drewN _) (Nat.add_assoc _ _ _))⟩)))
   repeat (go_quiet (first | (go_at_call 131; (with_reducible refine (impl_roundBit.calls k1 (wrap64 (x5_1 + (wrap64 (7 * a0)))) t1063 _ A3.out).mono ?_); rintro e w' ⟨rfl, ⟨nd, rfl⟩⟩; (try first | exact ⟨rfl, _, World.drewN_drewN _ _ _⟩ | exact ⟨rfl, _, Eq.trans (World.drewN_drewN _ _ _) (congrArg (World.drewN _) (Nat.add_assoc _ _ _))⟩))); try go_wp2)
   go_roundg k1
   case measure => have := HK1.out; omega
   case rel => exact ⟨(Go.bits .or .u64 x3_1 (ji8)), (wrap64 (x5_1 + 1)), (by first | rfl | (simp; done) | (simp only [← hji8] <;> (first | rfl | simp)) | (simp [*]; done)), f0_, H', ⟨by have := HK1.out; omega⟩, d0_⟩

-- NOT PRINTED: function 106 (impl_permuted)

-- NOT PRINTED: function 107 (impl_lanesOf)

-- NOT PRINTED: function 108 (impl_lanes_text)

-- GIVEN: function 74 (impl_Permute)

-- GIVEN: function 73 (impl_absorbed)

/-! ### impl_modQ: function 33 -/
def impl_modQ.f (a0 : Int) : Option (Int) := some (Int.tmod (wrap64 ((Int.tmod a0 3329) + 3329)) 3329)
theorem impl_modQ.calls (a0 : Int) (r : Int) (w : World) (h : impl_modQ.f a0 = some r) :
  Calls Try.prog 33 #[.int .i64 a0] w fun e w' => e = .returned (.int .i64 r) ∧ Drawn0 w w' := by
 delta impl_modQ.f at h
 have H := h
 clear h
 obtain rfl := Option.some.inj H
 go_enter Try.func33, Try.ntmps33
 go_wp2
 go_ret
 exact ⟨f0_, d0_⟩

/-! ### impl_PolyOk: function 17 -/
def impl_PolyOk.l0 : Nat → List Int → List Int → Int → Int → Option (Bool)
 | 0, _, _, _, _ => none
 | k + 1, x0, x5, x6, x7 => if x7 < x6 then (if 0 ≤ x7 then (if x7 < (x5.length : Int) then ((impl_in.f (rd x5 x7) 0 3328).bind fun t1087 => (if t1087 = true then (impl_PolyOk.l0 k x0 x5 x6 (wrap64 (x7 + 1))) else (some false))) else (none)) else (none)) else (some ((x0.length : Int) == 256))
def impl_PolyOk.f (k : Nat) (l0 : List Int) : Option (Bool) := impl_PolyOk.l0 k l0 l0 (l0.length : Int) 0
theorem impl_PolyOk.mono_l : ∀ k, (∀ y0 y1 y2 y3, LeO (impl_PolyOk.l0 k y0 y1 y2 y3) (impl_PolyOk.l0 (k + 1) y0 y1 y2 y3))
 | 0 => fun _ _ _ _ r h => by simp [impl_PolyOk.l0] at h
 | k + 1 => by
  have ih0 := impl_PolyOk.mono_l k
  intros; unfold impl_PolyOk.l0; exact o1_ ih0
theorem impl_PolyOk.mono : ∀ a0 k, LeO (impl_PolyOk.f k a0) (impl_PolyOk.f (k + 1) a0) := by
 intro a0 k
 have ih0 := impl_PolyOk.mono_l k
 unfold impl_PolyOk.f
 exact o1_ ih0
theorem impl_PolyOk.calls (k : Nat) (A0 : Option Addr) (c0 : Nat) (l0 : List Int) (r : Bool) (w : World) (hr0 : Kd.C (Kd.int .i64) w A0 l0.length l0) (hc0 : l0.length ≤ c0) (h : impl_PolyOk.f k l0 = some r) :
  Calls Try.prog 17 #[.slice A0 l0.length c0] w fun e w' => e = .returned (.bool r) ∧ Drawn0 w w' := by
 have HR0 := Aside0.mk hr0
 have HC0 := Aside0.mk hc0
 clear hr0 hc0
 delta impl_PolyOk.f at h
 have H := h
 clear h
 have H' := Aside0.mk H
 clear H
 go_enter Try.func17, Try.ntmps17
 go_wp2
 go_loopg [7] k (fun kq v7 w' => ∃ (x7_1 : Int), v7 = .int .i64 x7_1 ∧ Aside0 (impl_PolyOk.l0 kq l0 l0 (l0.length : Int) x7_1 = some r) ∧ Aside0 (kq ≤ k) ∧ Drawn0 w w')
 case atStart => exact ⟨(0), f0_, H', ⟨Nat.le_refl _⟩, d0_⟩
 case round =>
  clear H'
  obtain ⟨x7_1, rfl, HA, HK1, ⟨m1, rfl⟩⟩ := hrel
  cases gk with
  | zero => exact absurd HA.out (by simp [impl_PolyOk.l0])
  | succ k1 =>
   have H := HA.out
   clear HA
   simp only [impl_PolyOk.l0] at H
   by_cases c2 : x7_1 < (l0.length : Int)
   rotate_left
   ·rw [if_neg c2] at H
    have c2b0 := decide_eq_false c2
    clear c2
    obtain rfl := Option.some.inj H
    go_wp2
    go_ret
    exact ⟨f0_, d0_⟩
   rw [if_pos c2] at H
   have c2b0 := decide_eq_true c2
   clear c2
   obtain ⟨c3b0, H⟩ := iD_ H
   obtain ⟨c4b0, H⟩ := iD_ H
   obtain ⟨t1087, A5, H⟩ := bN_ H
   by_cases c6 : t1087 = true
   ·subst c6
    replace H := iT_ H
    have H' := Aside0.mk H
    clear H
    have p1086 : 0 ≤ (x7_1 : Int) := oD_
    have q1086 : x7_1 < (l0.length : Int) := oD_
    obtain ⟨ad1086, e1086, hx1086_0⟩ := Kd.at_int HR0.out x7_1 p1086 q1086
    cases e1086
    replace p1086 := eq_true p1086
    replace q1086 := eq_true q1086
    go_wp2_with (first | ((with_reducible refine gate_callee (f := 41) rfl ?_); refine goesL_ (some 12) rfl rfl Try.func41 (by kernel_rfl) rfl #[.int .i64 (rd l0 x7_1), .int .i64 0, .int .i64 3328] rfl aM_ ?_; (with_reducible refine (impl_in.calls (rd l0 x7_1) 0 3328 true _ A5.out).mono ?_); rintro e w' ⟨rfl, ⟨nd, rfl⟩⟩; refine ⟨_, rfl, ?_⟩))
    go_roundg k1
    case measure => have := HK1.out; omega
    case rel => exact ⟨(wrap64 (x7_1 + 1)), f0_, H', ⟨by have := HK1.out; omega⟩, d0_⟩
   ·replace c6 := Bool.eq_false_iff.mpr c6
    subst c6
    replace H := iF_ H
    obtain rfl := Option.some.inj H
    have p1086 : 0 ≤ (x7_1 : Int) := oD_
    have q1086 : x7_1 < (l0.length : Int) := oD_
    obtain ⟨ad1086, e1086, hx1086_0⟩ := Kd.at_int HR0.out x7_1 p1086 q1086
    cases e1086
    replace p1086 := eq_true p1086
    replace q1086 := eq_true q1086
    go_wp2_with (first | ((with_reducible refine gate_callee (f := 41) rfl ?_); refine goesL_ (some 12) rfl rfl Try.func41 (by kernel_rfl) rfl #[.int .i64 (rd l0 x7_1), .int .i64 0, .int .i64 3328] rfl aM_ ?_; (with_reducible refine (impl_in.calls (rd l0 x7_1) 0 3328 false _ A5.out).mono ?_); rintro e w' ⟨rfl, ⟨nd, rfl⟩⟩; refine ⟨_, rfl, ?_⟩))
    go_ret
    exact ⟨f0_, d0_⟩

/-! ### impl_packed: function 67 -/
mutual
def impl_packed.l0 : Nat → Int → List Int → List Int → Int → Int → Option (ByteArray)
 | 0, _, _, _, _, _ => none
 | k + 1, x1, x5, x17, x18, x19 => if x19 < x18 then (if 0 ≤ x19 then (if x19 < (x17.length : Int) then (impl_packed.l1 k x1 x5 x19 (rd x17 x19) x17 x18 x19 x1 0) else (none)) else (none)) else (some (strOfNums x5))
def impl_packed.l1 : Nat → Int → List Int → Int → Int → List Int → Int → Int → Int → Int → Option (ByteArray)
 | 0, _, _, _, _, _, _, _, _, _ => none
 | k + 1, x1, x5, x6, x7, x17, x18, x19, x24, x25 => if x25 < x24 then (if 0 ≤ (wrap64 (Int.tdiv (wrap64 ((wrap64 (x6 * x1)) + x25)) 8)) then (if (wrap64 (Int.tdiv (wrap64 ((wrap64 (x6 * x1)) + x25)) 8)) < (x5.length : Int) then (if 0 ≤ x25 then (if 0 ≤ (Int.tmod (wrap64 ((wrap64 (x6 * x1)) + x25)) 8) then (impl_packed.l1 k x1 (x5.set ((wrap64 (Int.tdiv (wrap64 ((wrap64 (x6 * x1)) + x25)) 8)) : Int).toNat (Go.bits .or .u8 (rd x5 (wrap64 (Int.tdiv (wrap64 ((wrap64 (x6 * x1)) + x25)) 8))) (shl .u8 ((Go.bits .and .i64 (shr .i64 x7 x25) 1) % 256) (Int.tmod (wrap64 ((wrap64 (x6 * x1)) + x25)) 8)))) x6 x7 x17 x18 x19 x24 (wrap64 (x25 + 1))) else (none)) else (none)) else (none)) else (none)) else (impl_packed.l0 k x1 x5 x17 x18 (wrap64 (x19 + 1)))
end
def impl_packed.f (k : Nat) (l0 : List Int) (a1 : Int) : Option (ByteArray) := if 0 ≤ (wrap64 (Int.tdiv (wrap64 ((wrap64 ((l0.length : Int) * a1)) + 7)) 8)) then (if (wrap64 (Int.tdiv (wrap64 ((wrap64 ((l0.length : Int) * a1)) + 7)) 8) : Int).toNat ≤ 281474976710656 then (impl_packed.l0 k a1 (List.replicate (wrap64 (Int.tdiv (wrap64 ((wrap64 ((l0.length : Int) * a1)) + 7)) 8) : Int).toNat 0) l0 (l0.length : Int) 0) else (none)) else (none)
theorem impl_packed.mono_l : ∀ k, (∀ y0 y1 y2 y3 y4, LeO (impl_packed.l0 k y0 y1 y2 y3 y4) (impl_packed.l0 (k + 1) y0 y1 y2 y3 y4)) ∧ (∀ y0 y1 y2 y3 y4 y5 y6 y7 y8, LeO (impl_packed.l1 k y0 y1 y2 y3 y4 y5 y6 y7 y8) (impl_packed.l1 (k + 1) y0 y1 y2 y3 y4 y5 y6 y7 y8))
 | 0 => ⟨fun _ _ _ _ _ r h => by simp [impl_packed.l0] at h, fun _ _ _ _ _ _ _ _ _ r h => by simp [impl_packed.l1] at h⟩
 | k + 1 => by
  obtain ⟨ih0, ih1⟩ := impl_packed.mono_l k
  refine ⟨?_, ?_⟩ <;> (intros; (first | unfold impl_packed.l0 | unfold impl_packed.l1); exact o2_ ih0 ih1)
theorem impl_packed.mono : ∀ a0 a1 k, LeO (impl_packed.f k a0 a1) (impl_packed.f (k + 1) a0 a1) := by
 intro a0 a1 k
 obtain ⟨ih0, ih1⟩ := impl_packed.mono_l k
 unfold impl_packed.f
 exact o2_ ih0 ih1
def impl_packed.T9 : Bool × List (List Nat × List Nat) := (true, [([], []), ([], []), ([1], [1]), ([0, 2], [0, 2]), ([3], [3]), ([], []), ([], []), ([5, 6], [5, 6]), ([7], [7]), ([8], [8]), ([], []), ([10], [10]), ([9, 11], [9, 11]), ([4, 12], [4, 12]), ([0, 2, 0, 1, 2, 3, 4, 5, 6, 7, 8, 9, 10, 11, 12, 13], [0, 2]), ([14, 13, 0, 1, 2, 3, 4, 5, 6, 7, 8, 9, 10, 11, 12, 13], [13, 14])])
def impl_packed.B9 : List Nat := [0, 0, 2, 7, 15, 0, 0, 96, 224, 480, 0, 1024, 4064, 8191, 16383, 32767]
theorem impl_packed.tab9 : rtab .any (opsOf Try.f67 9) = impl_packed.T9 := by kernel_rfl
theorem impl_packed.bits9 : waitsOk impl_packed.T9.2 impl_packed.B9 = true := by kernel_rfl
theorem impl_packed.calls (k : Nat) (A0 : Option Addr) (c0 : Nat) (l0 : List Int) (a1 : Int) (r : ByteArray) (w : World) (hr0 : Kd.C (Kd.int .i64) w A0 l0.length l0) (hc0 : l0.length ≤ c0) (h : impl_packed.f k l0 a1 = some r) :
  Calls Try.prog 67 #[.slice A0 l0.length c0, .int .i64 a1] w fun e w' => e = .returned (.string r) ∧ Below w.heap.size w w' := by
 have HR0 := Aside0.mk hr0
 have HC0 := Aside0.mk hc0
 clear hr0 hc0
 have HB := Aside0.mk (Below.refl w.heap.size w)
 delta impl_packed.f at h
 have H := h
 clear h
 obtain ⟨ji3, hji3⟩ : ∃ j_ : Int, (wrap64 (Int.tdiv (wrap64 ((wrap64 ((l0.length : Int) * a1)) + 7)) 8)) = j_ := ⟨_, rfl⟩
 first | rw [hji3] at H | simp only [hji3] at H
 have hji3w : (IntKind.i64.wrap (Int.tdiv (wrap64 ((wrap64 ((l0.length : Int) * a1)) + 7)) 8)) = ji3 := (i64_w _).trans hji3
 obtain ⟨c4, H⟩ := iN_ H
 have c4b0 := eq_true c4
 have c4b1 := decide_eq_true c4
 clear c4
 obtain ⟨c5, H⟩ := iN_ H
 have c5b0 := eq_true c5
 have c5b1 := decide_eq_true c5
 clear c5
 obtain ⟨y1088, hy1088⟩ : ∃ y_ : List Int, y_ = (List.replicate (ji3 : Int).toNat 0) := ⟨_, rfl⟩
 first | replace H := yb_ hy1088 H | rw [← hy1088] at H
 have Ny1088 := Aside0.mk hy1088
 clear hy1088
 have H' := Aside0.mk H
 clear H
 go_enter Try.func67, Try.ntmps67
 go_wp2_with (first | ((with_reducible refine gate_dst (N := 16) rfl ?_); refine Kd.R_make (Kd.int .u8) _ 5 rfl (N := 16) rfl 29 _ _ rfl ji3 rfl rfl Try.underlying29 (.int .u8 0) 1 info5 rfl (by decide) (by omega) 0 (ok := fun _ => True) (okp := fun _ => True) rfl (fun _ hk => hk) trivial oD_ (Nat.le_trans (Nat.mul_le_mul_right _ (oD_ : ji3.toNat ≤ 281474976710656)) (by omega)) (Below.refl _ _) (Nat.le_refl _) ?_; intro v1089 w6 ho7 hb hg_ hnew_; clear hg_ hnew_; (first | rw [← Ny1088.out] at ho7 | (simp only [Int.reduceToNat] at ho7; rw [← Ny1088.out] at ho7)); have n_ := b_ (Kd.R_lower ho7 (below_size (hB_))) <| c_ (below_step (hB_) hb); clear HB; obtain ⟨HO1090, HB⟩ := n_; clear hb ho7))
 go_loopg [19] k (fun kq v19 w' => ∃ (x5_1 : List Int) (x19_1 : Int), v19 = .int .i64 x19_1 ∧ Aside0 (impl_packed.l0 kq a1 x5_1 l0 (l0.length : Int) x19_1 = some r) ∧ Aside0 (kq ≤ k) ∧ Aside0 (Kd.R (Kd.int .u8) 5 w' w.heap.size (fun _ => True) v1089 x5_1) ∧ Aside0 (Below w.heap.size w w'))
 case atStart => exact ⟨(y1088), (0), f0_, H', ⟨Nat.le_refl _⟩, ⟨rR_ HO1090.out⟩, ⟨hB_⟩⟩
 case round =>
  clear H'
  obtain ⟨x5_1, x19_1, rfl, HA, HK1, HO_5, HB⟩ := hrel
  cases gk with
  | zero => exact absurd HA.out (by simp [impl_packed.l0])
  | succ k1 =>
   have H := HA.out
   clear HA
   simp only [impl_packed.l0] at H
   by_cases c8 : x19_1 < (l0.length : Int)
   rotate_left
   ·rw [if_neg c8] at H
    have c8b0 := decide_eq_false c8
    clear c8
    obtain rfl := Option.some.inj H
    have hcv24 := own_string (P := Try.prog) Try.underlying29 Try.underlying5 Try.underlying9 (Kd.own_of_R HO_5.out)
    go_wp2
    go_ret
    exact ⟨by first | rfl | (simp [errW_none, errW_some] <;> rfl) | (simp only [← hji3]; first | rfl | (simp [errW_none, errW_some] <;> rfl)) | (simp [*, errW_none, errW_some] <;> rfl), hB_⟩
   rw [if_pos c8] at H
   have c8b0 := decide_eq_true c8
   clear c8
   obtain ⟨c9b0, H⟩ := iD_ H
   obtain ⟨c10b0, H⟩ := iD_ H
   have H' := Aside0.mk H
   clear H
   have p1091 : 0 ≤ (x19_1 : Int) := oD_
   have q1091 : x19_1 < (l0.length : Int) := oD_
   obtain ⟨ad1091, e1091, hx1091_0⟩ := Kd.at_int HR0.out x19_1 p1091 q1091
   cases e1091
   replace hx1091_0 := (HB.out.cell (World.block_lt_of_cell? w _ hx1091_0)).trans hx1091_0
   replace p1091 := eq_true p1091
   replace q1091 := eq_true q1091
   go_wp2
   go_loopg [25] k1 (fun kq v25 w' => ∃ (x5_2 : List Int) (x25_2 : Int), v25 = .int .i64 x25_2 ∧ Aside0 (impl_packed.l1 kq a1 x5_2 x19_1 (rd l0 x19_1) l0 (l0.length : Int) x19_1 a1 x25_2 = some r) ∧ Aside0 (kq ≤ k1) ∧ Aside0 (Kd.R (Kd.int .u8) 5 w' w.heap.size (fun _ => True) v1089 x5_2) ∧ Aside0 (Below w.heap.size w w'))
   case atStart => exact ⟨(x5_1), (0), f0_, H', ⟨Nat.le_refl _⟩, ⟨rR_ HO_5.out⟩, ⟨hB_⟩⟩
   case round =>
    clear H'
    obtain ⟨x5_2, x25_2, rfl, HA, HK2, HO_5, HB⟩ := hrel
    cases gk with
    | zero => exact absurd HA.out (by simp [impl_packed.l1])
    | succ k2 =>
     have H := HA.out
     clear HA
     simp only [impl_packed.l1] at H
     by_cases c11 : x25_2 < a1
     rotate_left
     ·rw [if_neg c11] at H
      have c11b0 := decide_eq_false c11
      clear c11
      have H' := Aside0.mk H
      clear H
      go_wp2
      go_roundg k2
      case measure => have := HK1.out; have := HK2.out; omega
      case rel => exact ⟨(x5_2), (wrap64 (x19_1 + 1)), f0_, H', ⟨by have := HK1.out; have := HK2.out; omega⟩, ⟨rR_ HO_5.out⟩, ⟨hB_⟩⟩
     rw [if_pos c11] at H
     have c11b0 := decide_eq_true c11
     clear c11
     obtain ⟨ji12, hji12⟩ : ∃ j_ : Int, (wrap64 (Int.tdiv (wrap64 ((wrap64 (x19_1 * a1)) + x25_2)) 8)) = j_ := ⟨_, rfl⟩
     first | rw [hji12] at H | simp only [hji12] at H
     have hji12w : (IntKind.i64.wrap (Int.tdiv (wrap64 ((wrap64 (x19_1 * a1)) + x25_2)) 8)) = ji12 := (i64_w _).trans hji12
     obtain ⟨c13b0, H⟩ := iD_ H
     obtain ⟨c14b0, H⟩ := iD_ H
     obtain ⟨c15, H⟩ := iN_ H
     have c15b0 := eq_true c15
     have c15b1 := decide_eq_true c15
     clear c15
     obtain ⟨ji16, hji16⟩ : ∃ j_ : Int, (shr .i64 (rd l0 x19_1) x25_2) = j_ := ⟨_, rfl⟩
     first | rw [hji16] at H | simp only [hji16] at H
     have hji16_ : ((rd l0 x19_1) / 2 ^ min x25_2.toNat 64) = ji16 := hji16
     have hji16z : x25_2 ≤ 64 → ((rd l0 x19_1) / 2 ^ x25_2.toNat) = ji16 := shr_small hji16
     obtain ⟨ji17, hji17⟩ : ∃ j_ : Int, (Int.tmod (wrap64 ((wrap64 (x19_1 * a1)) + x25_2)) 8) = j_ := ⟨_, rfl⟩
     first | rw [hji17] at H | simp only [hji17] at H
     obtain ⟨c18, H⟩ := iN_ H
     have c18b0 := eq_true c18
     have c18b1 := decide_eq_true c18
     clear c18
     obtain ⟨ji19, hji19⟩ : ∃ j_ : Int, (shl .u8 ((Go.bits .and .i64 (ji16) 1) % 256) (ji17)) = j_ := ⟨_, rfl⟩
     first | rw [hji19] at H | simp only [hji19] at H
     have hji19_ : (IntKind.u8.wrap (((Go.bits .and .i64 (ji16) 1) % 256) * 2 ^ min (ji17).toNat 8)) = ji19 := hji19
     have hji19z : (ji17) ≤ 8 → (IntKind.u8.wrap (((Go.bits .and .i64 (ji16) 1) % 256) * 2 ^ (ji17).toNat)) = ji19 := shl_small hji19
     have hji19k : ((((Go.bits .and .i64 (ji16) 1) % 256) * 2 ^ min (ji17).toNat 8) % 256) = ji19 := (IntKind.wrap_u8 _).symm.trans hji19_
     have hji19n : (ji17) ≤ 8 → ((((Go.bits .and .i64 (ji16) 1) % 256) * 2 ^ (ji17).toNat) % 256) = ji19 := fun h_ => (IntKind.wrap_u8 _).symm.trans (hji19z h_)
     obtain ⟨y1093, hy1093⟩ : ∃ y_ : List Int, y_ = (x5_2.set ((ji12) : Int).toNat (Go.bits .or .u8 (rd x5_2 (ji12)) (ji19))) := ⟨_, rfl⟩
     first | replace H := yb_ hy1093 H | rw [← hy1093] at H
     have Ny1093 := Aside0.mk hy1093
     clear hy1093
     have H' := Aside0.mk H
     clear H
     try go_wp2
     have n_ := b_ (Kd.R_drew HO_5.out) <| c_ (below_drew1 HB.out)
     clear HO_5 HB
     obtain ⟨HO_5, HB⟩ := n_
     obtain ⟨Ao22, co22, eo22⟩ := Kd.R_slice HO_5.out
     (first | subst eo22 | (injection eo22 with f1_ f2_ f3_; have f4_ := f1_.symm; have f5_ := f3_.symm; clear f1_ f2_ f3_; subst f4_; subst f5_))
     have p1092 : 0 ≤ ((ji12) : Int) := oD_
     have q1092 : (ji12) < (x5_2.length : Int) := oD_
     obtain ⟨ad1092, e1092, hx1092_0⟩ := Kd.at_int (Kd.R_reads' HO_5.out).2.2 (ji12) p1092 q1092
     cases e1092
     replace p1092 := eq_true p1092
     replace q1092 := eq_true q1092
     have p20 : 0 ≤ ((ji12) : Int) := oD_
     have q20 : ((ji12) : Int) < ((x5_2.length : Int) : Int) := oD_
     obtain ⟨go20, co20, eo20, gb20, gl20, cl20, HG20⟩ := Kd.R_form HO_5.out (by omega)
     (first | cases eo20 | (injection eo20 with ea_ en_ ec_; (first | subst ea_ | (injection ea_ with ea_; subst ea_)); subst ec_; clear en_))
     have GB20 := Aside0.mk gb20
     have GG20 := Aside0.mk HG20
     clear gb20 gl20 HG20
     (first | simp only [add_plain] at hx1092_0 | skip)
     obtain ⟨hx20_0, hf20_0⟩ := Kd.R_celln 0 HO_5.out ((ji12) : Int) p20 q20
     replace p20 := eq_true p20
     replace q20 := eq_true q20
     have HP23 := Kd.R_putn HO_5.out ((ji12) : Int) (Go.bits .or .u8 (rd x5_2 (ji12)) (ji19))
     rw [← Ny1093.out] at HP23
     have HQ23 := Aside0.mk HP23
     clear HP23
     refine start_ (n := 16) (S := fun w' => w'.cell? ⟨go20, ((ji12)).toNat, none⟩ = some (.int .u8 (rd x5_2 (ji12)))) (ds := [15]) (bb_ 16 0) (by kernel_rfl) rfl rfl (hx1092_0) (fun hHeld => ?_); refine with_tabW impl_packed.tab9 impl_packed.bits9 (fun HT_ HW_ => ?_)
     generalize wr.drew = w21 at HO_5 HB GG20 HQ23 hf20_0 hx1092_0 hx20_0 hHeld ⊢
     refine pS_ 0 33 (bb_ 16 1) HT_.out ?_
     refine pS_ 1 34 (bb_ 16 3) HT_.out ?_
     refine pS_ 2 35 (bb_ 16 7) HT_.out ?_
     refine pS_ 3 36 (bb_ 16 15) HT_.out ?_
     refine pS_ 5 38 (bb_ 16 47) HT_.out ?_
     refine pS_ 6 39 (bb_ 16 111) HT_.out ?_
     refine pS_ 7 40 (bb_ 16 239) HT_.out ?_
     refine pS_ 8 41 (bb_ 16 495) HT_.out ?_
     refine pS_ 9 42 (bb_ 16 1007) HT_.out ?_
     refine pS_ 10 43 (bb_ 16 2031) HT_.out ?_
     refine pS_ 11 44 (bb_ 16 4079) HT_.out ?_
     refine pS_ 12 45 (bb_ 16 8175) HT_.out ?_
     refine tS_ 4 37 (bb_ 16 8191) (take_ofW HT_.out HW_.out (by kernel_rfl)) hHeld ?_
     refine pS_ 13 46 (bb_ 16 16383) HT_.out ?_
     refine pS_ 14 47 (bb_ 16 32767) HT_.out ?_
     refine last_ (i := 15) (N := none) (bb_ 16 65535) rfl rfl (one_of HT_.out (by kernel_rfl)) (by decide) (fun K hK => ?_)
     refine skip_ (w1 := ?_) (by rfl) rfl ?_ ?_
     rotate_left
     ·go_simp
      rfl
     refine hK.out _ _ ?_
     clear hK K
     refine done_ (done_of HT_.out (by kernel_rfl)) ?_
     try go_wp2
     (try simp only [hji19k])
     go_roundg k2
     case measure => have := HK1.out; have := HK2.out; omega
     case rel => exact ⟨(y1093), (wrap64 (x25_2 + 1)), f0_, H', ⟨by have := HK1.out; have := HK2.out; omega⟩, ⟨rR_ HQ23.out⟩, ⟨hS_ GB20.out⟩⟩

/-! ### impl_Unpack: function 116 -/
mutual
def impl_Unpack.j0 : Nat → ByteArray → Int → Int → Bool → Option (List Int × Bool)
 | 0, _, _, _, _ => none
 | k + 1, x0, x1, x2, x30 => if x30 = true then (some (([] : List Int), false)) else (impl_Unpack.l0 k x0 x1 ([] : List Int) x2 0)
def impl_Unpack.l0 : Nat → ByteArray → Int → List Int → Int → Int → Option (List Int × Bool)
 | 0, _, _, _, _, _ => none
 | k + 1, x0, x1, x8, x31, x32 => if x32 < x31 then (impl_Unpack.l1 k x0 x1 x8 x32 0 x31 x32 x1 0) else ((impl_packed.f k x8 x1).bind fun t1096 => (if t1096.toList = x0.toList then (some (x8, true)) else (some (([] : List Int), false))))
def impl_Unpack.l1 : Nat → ByteArray → Int → List Int → Int → Int → Int → Int → Int → Int → Option (List Int × Bool)
 | 0, _, _, _, _, _, _, _, _, _ => none
 | k + 1, x0, x1, x8, x9, x10, x31, x32, x35, x36 => if x36 < x35 then (if 0 ≤ (wrap64 (Int.tdiv (wrap64 ((wrap64 (x9 * x1)) + x36)) 8)) then (if (wrap64 (Int.tdiv (wrap64 ((wrap64 (x9 * x1)) + x36)) 8)) < (x0.size : Int) then (if 0 ≤ (Int.tmod (wrap64 ((wrap64 (x9 * x1)) + x36)) 8) then (if 0 ≤ x36 then (impl_Unpack.l1 k x0 x1 x8 x9 (Go.bits .or .i64 x10 (shl .i64 (wrap64 (Go.bits .and .u8 (shr .u8 (bt x0 (wrap64 (Int.tdiv (wrap64 ((wrap64 (x9 * x1)) + x36)) 8))) (Int.tmod (wrap64 ((wrap64 (x9 * x1)) + x36)) 8)) 1)) x36)) x31 x32 x35 (wrap64 (x36 + 1))) else (none)) else (none)) else (none)) else (none)) else (if x8.length < 17592186044416 then (impl_Unpack.l0 k x0 x1 (x8 ++ [x10]) x31 (wrap64 (x32 + 1))) else (none))
end
def impl_Unpack.f (k : Nat) (a0 : ByteArray) (a1 : Int) (a2 : Int) : Option (List Int × Bool) := (impl_in.f a1 1 12).bind fun t1094 => (if t1094 = true then ((impl_in.f a2 0 1000).bind fun t1095 => (if t1095 = true then (impl_Unpack.j0 k a0 a1 a2 ((a0.size : Int) != (wrap64 (Int.tdiv (wrap64 ((wrap64 (a2 * a1)) + 7)) 8)))) else (impl_Unpack.j0 k a0 a1 a2 true))) else (impl_Unpack.j0 k a0 a1 a2 true))
theorem impl_Unpack.mono_l : ∀ k, (∀ y0 y1 y2 y3, LeO (impl_Unpack.j0 k y0 y1 y2 y3) (impl_Unpack.j0 (k + 1) y0 y1 y2 y3)) ∧ (∀ y0 y1 y2 y3 y4, LeO (impl_Unpack.l0 k y0 y1 y2 y3 y4) (impl_Unpack.l0 (k + 1) y0 y1 y2 y3 y4)) ∧ (∀ y0 y1 y2 y3 y4 y5 y6 y7 y8, LeO (impl_Unpack.l1 k y0 y1 y2 y3 y4 y5 y6 y7 y8) (impl_Unpack.l1 (k + 1) y0 y1 y2 y3 y4 y5 y6 y7 y8))
 | 0 => ⟨fun _ _ _ _ r h => by simp [impl_Unpack.j0] at h, fun _ _ _ _ _ r h => by simp [impl_Unpack.l0] at h, fun _ _ _ _ _ _ _ _ _ r h => by simp [impl_Unpack.l1] at h⟩
 | k + 1 => by
  obtain ⟨ih0, ih1, ih2⟩ := impl_Unpack.mono_l k
  refine ⟨?_, ?_, ?_⟩ <;> (intros; (first | unfold impl_Unpack.j0 | unfold impl_Unpack.l0 | unfold impl_Unpack.l1); exact o4_ ih0 ih1 ih2 impl_packed.mono)
theorem impl_Unpack.mono : ∀ a0 a1 a2 k, LeO (impl_Unpack.f k a0 a1 a2) (impl_Unpack.f (k + 1) a0 a1 a2) := by
 intro a0 a1 a2 k
 obtain ⟨ih0, ih1, ih2⟩ := impl_Unpack.mono_l k
 unfold impl_Unpack.f
 exact o4_ ih0 ih1 ih2 impl_packed.mono
theorem impl_Unpack.calls (k : Nat) (a0 : ByteArray) (a1 : Int) (a2 : Int) (r1 : List Int) (r2 : Bool) (w : World) (h : impl_Unpack.f k a0 a1 a2 = some (r1, r2)) :
  Calls Try.prog 116 #[.string a0, .int .i64 a1, .int .i64 a2] w fun e w' => ∃ v0_ : Value, e = .returned (.tuple #[v0_, .bool r2]) ∧ Kd.R (Kd.int .i64) 3 w' w.heap.size (fun _ => True) v0_ r1 ∧ Below w.heap.size w w' := by
 have HB := Aside0.mk (Below.refl w.heap.size w)
 delta impl_Unpack.f at h
 have H := h
 clear h
 have HC4 := Aside0.mk H
 clear H
 go_enter Try.func116, Try.ntmps116
 go_upto_region 1 with (fail)
 go_cut [30] (fun v30 wc => ∃ (kq : Nat) (x30_3 : Bool), v30 = .bool x30_3 ∧ Aside0 (impl_Unpack.j0 kq a0 a1 a2 x30_3 = some (r1, r2)) ∧ Aside0 (kq ≤ k) ∧ Aside0 (Below w.heap.size w wc))
 case first =>
  have H := HC4.out
  clear HC4
  obtain ⟨t1094, A5, H⟩ := bN_ H
  by_cases c6 : t1094 = true
  ·subst c6
   replace H := iT_ H
   obtain ⟨t1095, A7, H⟩ := bN_ H
   by_cases c8 : t1095 = true
   ·subst c8
    replace H := iT_ H
    have H' := Aside0.mk H
    clear H
    go_wp2_with (first | ((with_reducible refine gate_callee (f := 41) rfl ?_); refine goesL_ (some 14) rfl rfl Try.func41 (by kernel_rfl) rfl #[.int .i64 a1, .int .i64 1, .int .i64 12] rfl aM_ ?_; (with_reducible refine (impl_in.calls a1 1 12 true _ A5.out).mono ?_); rintro e w' ⟨rfl, ⟨nd, rfl⟩⟩; refine ⟨_, rfl, ?_⟩) | (go_at_call 41; (with_reducible refine (impl_in.calls a2 0 1000 true _ A7.out).mono ?_); rintro e w' ⟨rfl, ⟨nd, rfl⟩⟩))
    go_meet
    case rel => exact ⟨_, (((a0.size : Int) != (wrap64 (Int.tdiv (wrap64 ((wrap64 (a2 * a1)) + 7)) 8)))), f0_, H', ⟨by first | omega | exact Nat.le_refl _⟩, ⟨hB_⟩⟩
   ·replace c8 := Bool.eq_false_iff.mpr c8
    subst c8
    replace H := iF_ H
    have H' := Aside0.mk H
    clear H
    go_wp2_with (first | ((with_reducible refine gate_callee (f := 41) rfl ?_); refine goesL_ (some 14) rfl rfl Try.func41 (by kernel_rfl) rfl #[.int .i64 a1, .int .i64 1, .int .i64 12] rfl aM_ ?_; (with_reducible refine (impl_in.calls a1 1 12 true _ A5.out).mono ?_); rintro e w' ⟨rfl, ⟨nd, rfl⟩⟩; refine ⟨_, rfl, ?_⟩) | (go_at_call 41; (with_reducible refine (impl_in.calls a2 0 1000 false _ A7.out).mono ?_); rintro e w' ⟨rfl, ⟨nd, rfl⟩⟩))
    go_meet
    case rel => exact ⟨_, (true), f0_, H', ⟨by first | omega | exact Nat.le_refl _⟩, ⟨hB_⟩⟩
  ·replace c6 := Bool.eq_false_iff.mpr c6
   subst c6
   replace H := iF_ H
   have H' := Aside0.mk H
   clear H
   go_wp2_with (first | ((with_reducible refine gate_callee (f := 41) rfl ?_); refine goesL_ (some 14) rfl rfl Try.func41 (by kernel_rfl) rfl #[.int .i64 a1, .int .i64 1, .int .i64 12] rfl aM_ ?_; (with_reducible refine (impl_in.calls a1 1 12 false _ A5.out).mono ?_); rintro e w' ⟨rfl, ⟨nd, rfl⟩⟩; refine ⟨_, rfl, ?_⟩))
   go_meet
   case rel => exact ⟨_, (true), f0_, H', ⟨by first | omega | exact Nat.le_refl _⟩, ⟨hB_⟩⟩
 case rest =>
  clear HC4
  obtain ⟨kq, x30_3, rfl, HA, HJ3, HB⟩ := hcut
  cases kq with
  | zero => exact absurd HA.out (by simp [impl_Unpack.j0])
  | succ kj3 =>
   have H := HA.out
   clear HA
   simp only [impl_Unpack.j0] at H
   by_cases c9 : x30_3 = true
   ·subst c9
    replace H := iT_ H
    simp only [Option.some.injEq, Prod.mk.injEq] at H
    obtain ⟨rfl, rfl⟩ := H
    go_wp2
    go_ret2
    exact ⟨_, f1_, by first | exact Kd.R_nil _ _ _ _ _ | exact Kd.N_nil _ _ _ _ _ | exact Kd.V_nil _ _ _ _ _ | exact Kd.Q_nil _ _ _ _ _ | exact Kd.S_nil _ _ _ _ _, hB_⟩
   ·replace c9 := Bool.eq_false_iff.mpr c9
    subst c9
    replace H := iF_ H
    have H' := Aside0.mk H
    clear H
    go_wp2
    go_loopg [8, 32] kj3 (fun kq v8 v32 w' => ∃ (x8_2 : List Int) (x32_2 : Int), v32 = .int .i64 x32_2 ∧ Aside0 (impl_Unpack.l0 kq a0 a1 x8_2 a2 x32_2 = some (r1, r2)) ∧ Aside0 (kq ≤ kj3) ∧ Aside0 (Kd.R (Kd.int .i64) 3 w' w.heap.size (fun _ => True) v8 x8_2) ∧ Aside0 (Below w.heap.size w w'))
    case atStart => exact ⟨(([] : List Int)), (0), f0_, H', ⟨Nat.le_refl _⟩, ⟨by first | exact Kd.R_nil _ _ _ _ _ | exact Kd.N_nil _ _ _ _ _ | exact Kd.V_nil _ _ _ _ _ | exact Kd.Q_nil _ _ _ _ _ | exact Kd.S_nil _ _ _ _ _⟩, ⟨hB_⟩⟩
    case round =>
     clear H'
     obtain ⟨x8_2, x32_2, rfl, HA, HK2, HO_8, HB⟩ := hrel
     cases gk with
     | zero => exact absurd HA.out (by simp [impl_Unpack.l0])
     | succ k2 =>
      have H := HA.out
      clear HA
      simp only [impl_Unpack.l0] at H
      by_cases c10 : x32_2 < a2
      rotate_left
      ·rw [if_neg c10] at H
       have c10b0 := decide_eq_false c10
       clear c10
       obtain ⟨t1096, A23, H⟩ := bN_ H
       by_cases c24 : t1096.toList = a0.toList
       ·rw [if_pos c24] at H
        have c24b0 : (t1096.toList == a0.toList) = true := beq_iff_eq.mpr c24
        have c24b1 : (t1096.toList != a0.toList) = false := bne_eq_false_iff_eq.mpr c24
        clear c24
        simp only [Option.some.injEq, Prod.mk.injEq] at H
        obtain ⟨rfl, rfl⟩ := H
        obtain ⟨Ao25, co25, eo25⟩ := Kd.R_slice HO_8.out
        subst eo25
        go_wp2_with (first | ((with_reducible refine gate_callee (f := 67) rfl ?_); refine goesL_ (some 65) rfl rfl Try.func67 (by kernel_rfl) rfl #[.slice Ao25 x8_2.length co25, .int .i64 a1] rfl aM_ ?_; (with_reducible refine (impl_packed.calls k2 _ _ x8_2 a1 t1096 _ ?side1 ?side2 A23.out).mono ?_); (case side1 => exact cR_ (Kd.R_reads' HO_8.out).2.2); (case side2 => exact (Kd.R_reads' HO_8.out).2.1); rintro e w26 ⟨rfl, hb⟩; refine ⟨_, rfl, ?_⟩; have n_ := b_ (Kd.R_below (rR_ HO_8.out) hb) <| c_ (below_step (hB_) hb); clear HO_8 HB; obtain ⟨HO_8, HB⟩ := n_; (try clear hb)))
        go_ret2
        exact ⟨_, f1_, rR_ HO_8.out, hB_⟩
       rw [if_neg c24] at H
       have c24b0 : (t1096.toList == a0.toList) = false := beq_eq_false_iff_ne.mpr c24
       have c24b1 : (t1096.toList != a0.toList) = true := bne_iff_ne.mpr c24
       simp only [Option.some.injEq, Prod.mk.injEq] at H
       obtain ⟨rfl, rfl⟩ := H
       obtain ⟨Ao27, co27, eo27⟩ := Kd.R_slice HO_8.out
       subst eo27
       go_wp2_with (first | ((with_reducible refine gate_callee (f := 67) rfl ?_); refine goesL_ (some 65) rfl rfl Try.func67 (by kernel_rfl) rfl #[.slice Ao27 x8_2.length co27, .int .i64 a1] rfl aM_ ?_; (with_reducible refine (impl_packed.calls k2 _ _ x8_2 a1 t1096 _ ?side1 ?side2 A23.out).mono ?_); (case side1 => exact cR_ (Kd.R_reads' HO_8.out).2.2); (case side2 => exact (Kd.R_reads' HO_8.out).2.1); rintro e w28 ⟨rfl, hb⟩; refine ⟨_, rfl, ?_⟩; have n_ := b_ (Kd.R_below (rR_ HO_8.out) hb) <| c_ (below_step (hB_) hb); clear HO_8 HB; obtain ⟨HO_8, HB⟩ := n_; (try clear hb)))
       go_ret2
       exact ⟨_, f1_, by first | exact Kd.R_nil _ _ _ _ _ | exact Kd.N_nil _ _ _ _ _ | exact Kd.V_nil _ _ _ _ _ | exact Kd.Q_nil _ _ _ _ _ | exact Kd.S_nil _ _ _ _ _, hB_⟩
      rw [if_pos c10] at H
      have c10b0 := decide_eq_true c10
      clear c10
      have H' := Aside0.mk H
      clear H
      go_wp2
      go_loopg [10, 36] k2 (fun kq v10 v36 w' => ∃ (x10_3 : Int) (x36_3 : Int), v10 = .int .i64 x10_3 ∧ v36 = .int .i64 x36_3 ∧ Aside0 (impl_Unpack.l1 kq a0 a1 x8_2 x32_2 x10_3 a2 x32_2 a1 x36_3 = some (r1, r2)) ∧ Aside0 (kq ≤ k2) ∧ Aside0 (Kd.R (Kd.int .i64) 3 w' w.heap.size (fun _ => True) u8 x8_2) ∧ Aside0 (Below w.heap.size w w'))
      case atStart => exact ⟨(0), (0), f0_, f0_, H', ⟨Nat.le_refl _⟩, ⟨rR_ HO_8.out⟩, ⟨hB_⟩⟩
      case round =>
       clear H'
       obtain ⟨x10_3, x36_3, rfl, rfl, HA, HK3, HO_8, HB⟩ := hrel
       cases gk with
       | zero => exact absurd HA.out (by simp [impl_Unpack.l1])
       | succ k3 =>
        have H := HA.out
        clear HA
        simp only [impl_Unpack.l1] at H
        by_cases c11 : x36_3 < a1
        rotate_left
        ·rw [if_neg c11] at H
         have c11b0 := decide_eq_false c11
         clear c11
         obtain ⟨c21, H⟩ := iN_ H
         have LMc21 := Aside0.mk c21
         clear c21
         obtain ⟨y1097, hy1097⟩ : ∃ y_ : List Int, y_ = (x8_2 ++ [x10_3]) := ⟨_, rfl⟩
         first | replace H := yb_ hy1097 H | rw [← hy1097] at H
         have Ny1097 := Aside0.mk hy1097
         clear hy1097
         have H' := Aside0.mk H
         clear H
         go_wp2_with (first | ((with_reducible refine gate_builtin (b := .append) (xs := #[.tmp 58, .tmp 60]) rfl ?_); (try (refine gate_guard (by rfl) ?_; dsimp only)); at_builtin; refine Kd.R_append (Kd.int .i64) (w0 := w) w.heap.size rfl (.tmp 58) (.tmp 60) 22 3 (.int .i64 0) 8 rfl Try.underlying22 info3 rfl (by decide) (by omega) u8 x8_2 x10_3 [.int .i64 x10_3] (fun _ => True) (fun _ => False) rfl rfl ?aP (fun _ hk => hk.elim) ?aF ?aO ?aB ?aS ?aL ?_; (case aP => exact rfl); (case aB => exact (hB_)); (case aF => exact (fun _ _ => trivial)); (case aO => exact (rR_ HO_8.out)); (case aS => exact (below_size (hB_))); (case aL => have := LMc21.out; omega); intro v1098 w22 ho hb hg hat; rw [← Ny1097.out] at ho; have n_ := b_ (hb) <| c_ (ho); clear HO_8 HB; obtain ⟨HB, HO1099⟩ := n_; clear ho hb hg hat))
         go_roundg k3
         case measure => have := HJ3.out; have := HK2.out; have := HK3.out; omega
         case rel => exact ⟨(y1097), (wrap64 (x32_2 + 1)), f0_, H', ⟨by have := HJ3.out; have := HK2.out; have := HK3.out; omega⟩, ⟨rR_ HO1099.out⟩, ⟨hB_⟩⟩
        rw [if_pos c11] at H
        have c11b0 := decide_eq_true c11
        clear c11
        obtain ⟨ji12, hji12⟩ : ∃ j_ : Int, (wrap64 (Int.tdiv (wrap64 ((wrap64 (x32_2 * a1)) + x36_3)) 8)) = j_ := ⟨_, rfl⟩
        first | rw [hji12] at H | simp only [hji12] at H
        have hji12w : (IntKind.i64.wrap (Int.tdiv (wrap64 ((wrap64 (x32_2 * a1)) + x36_3)) 8)) = ji12 := (i64_w _).trans hji12
        obtain ⟨c13b0, H⟩ := iD_ H
        obtain ⟨c14b0, H⟩ := iD_ H
        obtain ⟨ji16, hji16⟩ : ∃ j_ : Int, (Int.tmod (wrap64 ((wrap64 (x32_2 * a1)) + x36_3)) 8) = j_ := ⟨_, rfl⟩
        first | rw [hji16] at H | simp only [hji16] at H
        obtain ⟨c17, H⟩ := iN_ H
        have c17b0 := eq_true c17
        have c17b1 := decide_eq_true c17
        clear c17
        obtain ⟨ji18, hji18⟩ : ∃ j_ : Int, (shr .u8 (bt a0 (ji12)) (ji16)) = j_ := ⟨_, rfl⟩
        first | rw [hji18] at H | simp only [hji18] at H
        have hji18_ : ((bt a0 (ji12)) / 2 ^ min (ji16).toNat 8) = ji18 := hji18
        have hji18z : (ji16) ≤ 8 → ((bt a0 (ji12)) / 2 ^ (ji16).toNat) = ji18 := shr_small hji18
        obtain ⟨c19, H⟩ := iN_ H
        have c19b0 := eq_true c19
        have c19b1 := decide_eq_true c19
        clear c19
        obtain ⟨ji20, hji20⟩ : ∃ j_ : Int, (shl .i64 (wrap64 (Go.bits .and .u8 (ji18) 1)) x36_3) = j_ := ⟨_, rfl⟩
        first | rw [hji20] at H | simp only [hji20] at H
        have hji20_ : (IntKind.i64.wrap ((wrap64 (Go.bits .and .u8 (ji18) 1)) * 2 ^ min x36_3.toNat 64)) = ji20 := hji20
        have hji20z : x36_3 ≤ 64 → (IntKind.i64.wrap ((wrap64 (Go.bits .and .u8 (ji18) 1)) * 2 ^ x36_3.toNat)) = ji20 := shl_small hji20
        have hji20y : (wrap64 ((wrap64 (Go.bits .and .u8 (ji18) 1)) * 2 ^ min x36_3.toNat 64)) = ji20 := (i64_w _).symm.trans hji20_
        have hji20x : x36_3 ≤ 64 → (wrap64 ((wrap64 (Go.bits .and .u8 (ji18) 1)) * 2 ^ x36_3.toNat)) = ji20 := fun h_ => (i64_w _).symm.trans (hji20z h_)
        have H' := Aside0.mk H
        clear H
        have p15 := eq_true (oD_ : 0 ≤ ((ji12) : Int))
        have q15 := eq_true (oD_ : (ji12) < (a0.size : Int))
        have hx15 := bt_at a0 (ji12)
        go_wp2
        go_roundg k3
        case measure => have := HJ3.out; have := HK2.out; have := HK3.out; omega
        case rel => exact ⟨(Go.bits .or .i64 x10_3 (ji20)), (wrap64 (x36_3 + 1)), (by first | rfl | (simp; done) | (simp only [← hji20] <;> (first | rfl | simp)) | (simp [*]; done)), f0_, H', ⟨by have := HJ3.out; have := HK2.out; have := HK3.out; omega⟩, ⟨rR_ HO_8.out⟩, ⟨hB_⟩⟩

/-! ### impl_PolyFrom: function 93 -/
def impl_PolyFrom.f (k : Nat) (a0 : ByteArray) : Option (List Int × Bool) := (impl_Unpack.f k a0 12 256).bind fun bt1100 => (if bt1100.2 = true then ((impl_PolyOk.f k bt1100.1).bind fun t1104 => (if t1104 = true then (some (bt1100.1, true)) else (some (([] : List Int), false)))) else (some (([] : List Int), false)))
theorem impl_PolyFrom.mono : ∀ a0 k, LeO (impl_PolyFrom.f k a0) (impl_PolyFrom.f (k + 1) a0) := by
 intro a0 k
 unfold impl_PolyFrom.f
 exact o2_ impl_PolyOk.mono impl_Unpack.mono
theorem impl_PolyFrom.calls (k : Nat) (a0 : ByteArray) (r1 : List Int) (r2 : Bool) (w : World) (h : impl_PolyFrom.f k a0 = some (r1, r2)) :
  Calls Try.prog 93 #[.string a0] w fun e w' => ∃ v0_ : Value, e = .returned (.tuple #[v0_, .bool r2]) ∧ Kd.R (Kd.int .i64) 3 w' w.heap.size (fun _ => True) v0_ r1 ∧ Below w.heap.size w w' := by
 have HB := Aside0.mk (Below.refl w.heap.size w)
 delta impl_PolyFrom.f at h
 have H := h
 clear h
 obtain ⟨⟨t1100, t1101⟩, A2, H⟩ := bN_ H
 by_cases c3 : t1101 = true
 ·subst c3
  replace H := iT_ H
  obtain ⟨t1104, A4, H⟩ := bN_ H
  by_cases c5 : t1104 = true
  ·subst c5
   replace H := iT_ H
   simp only [Option.some.injEq, Prod.mk.injEq] at H
   obtain ⟨rfl, rfl⟩ := H
   go_enter Try.func93, Try.ntmps93
   go_wp2_with (first | ((with_reducible refine gate_callee (f := 116) rfl ?_); refine goesL_ (some 8) rfl rfl Try.func116 (by kernel_rfl) rfl #[.string a0, .int .i64 12, .int .i64 256] rfl aM_ ?_; (with_reducible refine (impl_Unpack.calls k a0 12 256 t1100 true _ A2.out).mono ?_); rintro e w6 ⟨v1102, rfl, ho0, hb⟩; refine ⟨_, rfl, ?_⟩; have n_ := b_ (Kd.R_lower ho0 (below_size (hB_))) <| c_ (below_step (hB_) hb); clear HB; obtain ⟨HO1103, HB⟩ := n_; obtain ⟨Ao7, co7, eo7⟩ := Kd.R_slice HO1103.out; subst eo7) | (go_at_call 17; (with_reducible refine (impl_PolyOk.calls k _ _ t1100 true _ ?side1 ?side2 A4.out).mono ?_); (case side1 => exact cR_ (Kd.R_reads' HO1103.out).2.2); (case side2 => exact (Kd.R_reads' HO1103.out).2.1); rintro e w' ⟨rfl, ⟨nd, rfl⟩⟩))
   go_ret2
   exact ⟨_, f1_, rR_ HO1103.out, hB_⟩
  ·replace c5 := Bool.eq_false_iff.mpr c5
   subst c5
   replace H := iF_ H
   simp only [Option.some.injEq, Prod.mk.injEq] at H
   obtain ⟨rfl, rfl⟩ := H
   go_enter Try.func93, Try.ntmps93
   go_wp2_with (first | ((with_reducible refine gate_callee (f := 116) rfl ?_); refine goesL_ (some 8) rfl rfl Try.func116 (by kernel_rfl) rfl #[.string a0, .int .i64 12, .int .i64 256] rfl aM_ ?_; (with_reducible refine (impl_Unpack.calls k a0 12 256 t1100 true _ A2.out).mono ?_); rintro e w8 ⟨v1102, rfl, ho0, hb⟩; refine ⟨_, rfl, ?_⟩; have n_ := b_ (Kd.R_lower ho0 (below_size (hB_))) <| c_ (below_step (hB_) hb); clear HB; obtain ⟨HO1103, HB⟩ := n_; obtain ⟨Ao9, co9, eo9⟩ := Kd.R_slice HO1103.out; subst eo9) | (go_at_call 17; (with_reducible refine (impl_PolyOk.calls k _ _ t1100 false _ ?side1 ?side2 A4.out).mono ?_); (case side1 => exact cR_ (Kd.R_reads' HO1103.out).2.2); (case side2 => exact (Kd.R_reads' HO1103.out).2.1); rintro e w' ⟨rfl, ⟨nd, rfl⟩⟩))
   go_ret2
   exact ⟨_, f1_, by first | exact Kd.R_nil _ _ _ _ _ | exact Kd.N_nil _ _ _ _ _ | exact Kd.V_nil _ _ _ _ _ | exact Kd.Q_nil _ _ _ _ _ | exact Kd.S_nil _ _ _ _ _, hB_⟩
 ·replace c3 := Bool.eq_false_iff.mpr c3
  subst c3
  replace H := iF_ H
  simp only [Option.some.injEq, Prod.mk.injEq] at H
  obtain ⟨rfl, rfl⟩ := H
  go_enter Try.func93, Try.ntmps93
  go_wp2_with (first | ((with_reducible refine gate_callee (f := 116) rfl ?_); refine goesL_ (some 8) rfl rfl Try.func116 (by kernel_rfl) rfl #[.string a0, .int .i64 12, .int .i64 256] rfl aM_ ?_; (with_reducible refine (impl_Unpack.calls k a0 12 256 t1100 false _ A2.out).mono ?_); rintro e w10 ⟨v1102, rfl, ho0, hb⟩; refine ⟨_, rfl, ?_⟩; have n_ := b_ (Kd.R_lower ho0 (below_size (hB_))) <| c_ (below_step (hB_) hb); clear HB; obtain ⟨HO1103, HB⟩ := n_; (try clear ho0)))
  go_ret2
  exact ⟨_, f1_, by first | exact Kd.R_nil _ _ _ _ _ | exact Kd.N_nil _ _ _ _ _ | exact Kd.V_nil _ _ _ _ _ | exact Kd.Q_nil _ _ _ _ _ | exact Kd.S_nil _ _ _ _ _, hB_⟩

/-! ### impl_polysOf: function 60 -/
def impl_polysOf.l0 : Nat → ByteArray → List (List Int) → Int → Option ((List (List Int)) × Bool)
 | 0, _, _, _ => none
 | k + 1, x0, x4, x8 => if x8 < 2 then (if 0 ≤ (wrap64 (x8 * 384)) then (if (wrap64 (x8 * 384)) ≤ (wrap64 ((wrap64 (x8 + 1)) * 384)) then (if (wrap64 ((wrap64 (x8 + 1)) * 384)) ≤ (x0.size : Int) then ((impl_PolyFrom.f k (x0.extract ((wrap64 (x8 * 384)) : Int).toNat ((wrap64 ((wrap64 (x8 + 1)) * 384)) : Int).toNat)).bind fun bt1105 => (if bt1105.2 = true then (if x4.length < 5864062014805 then (impl_polysOf.l0 k x0 (x4 ++ [bt1105.1]) (wrap64 (x8 + 1))) else (none)) else (some (([] : List (List Int)), false)))) else (none)) else (none)) else (none)) else (some (x4, true))
def impl_polysOf.f (k : Nat) (a0 : ByteArray) : Option ((List (List Int)) × Bool) := impl_polysOf.l0 k a0 ([] : List (List Int)) 0
theorem impl_polysOf.mono_l : ∀ k, (∀ y0 y1 y2, LeO (impl_polysOf.l0 k y0 y1 y2) (impl_polysOf.l0 (k + 1) y0 y1 y2))
 | 0 => fun _ _ _ r h => by simp [impl_polysOf.l0] at h
 | k + 1 => by
  have ih0 := impl_polysOf.mono_l k
  intros; unfold impl_polysOf.l0; exact o2_ ih0 impl_PolyFrom.mono
theorem impl_polysOf.mono : ∀ a0 k, LeO (impl_polysOf.f k a0) (impl_polysOf.f (k + 1) a0) := by
 intro a0 k
 have ih0 := impl_polysOf.mono_l k
 unfold impl_polysOf.f
 exact o2_ ih0 impl_PolyFrom.mono
theorem impl_polysOf.calls (k : Nat) (a0 : ByteArray) (r1 : List (List Int)) (r2 : Bool) (w : World) (h : impl_polysOf.f k a0 = some (r1, r2)) :
  Calls Try.prog 60 #[.string a0] w fun e w' => ∃ v0_ : Value, e = .returned (.tuple #[v0_, .bool r2]) ∧ Kd.S (Kd.slice 3 (Kd.int .i64)) 22 w' w.heap.size (fun _ => True) v0_ r1 ∧ Below w.heap.size w w' := by
 have HB := Aside0.mk (Below.refl w.heap.size w)
 delta impl_polysOf.f at h
 have H := h
 clear h
 have H' := Aside0.mk H
 clear H
 go_enter Try.func60, Try.ntmps60
 go_wp2
 go_loopg [4, 8] k (fun kq v4 v8 w' => ∃ (x4_1 : List (List Int)) (x8_1 : Int), v8 = .int .i64 x8_1 ∧ Aside0 (impl_polysOf.l0 kq a0 x4_1 x8_1 = some (r1, r2)) ∧ Aside0 (kq ≤ k) ∧ Aside0 (Kd.S (Kd.slice 3 (Kd.int .i64)) 22 w' w.heap.size (fun _ => True) v4 x4_1) ∧ Aside0 (Below w.heap.size w w'))
 case atStart => exact ⟨(([] : List (List Int))), (0), f0_, H', ⟨Nat.le_refl _⟩, ⟨by first | exact Kd.S_nil _ _ _ _ _ | exact Kd.N_nil _ _ _ _ _ | exact Kd.V_nil _ _ _ _ _ | exact Kd.Q_nil _ _ _ _ _ | exact Kd.R_nil _ _ _ _ _⟩, ⟨hB_⟩⟩
 case round =>
  clear H'
  obtain ⟨x4_1, x8_1, rfl, HA, HK1, HO_4, HB⟩ := hrel
  cases gk with
  | zero => exact absurd HA.out (by simp [impl_polysOf.l0])
  | succ k1 =>
   have H := HA.out
   clear HA
   simp only [impl_polysOf.l0] at H
   by_cases c2 : x8_1 < 2
   rotate_left
   ·rw [if_neg c2] at H
    have c2b0 := decide_eq_false c2
    clear c2
    simp only [Option.some.injEq, Prod.mk.injEq] at H
    obtain ⟨rfl, rfl⟩ := H
    go_wp2
    go_ret2
    exact ⟨_, f1_, by refine kS_ ?_; exact HO_4.out, hB_⟩
   rw [if_pos c2] at H
   have c2b0 := decide_eq_true c2
   clear c2
   obtain ⟨ji3, hji3⟩ : ∃ j_ : Int, (wrap64 (x8_1 * 384)) = j_ := ⟨_, rfl⟩
   first | rw [hji3] at H | simp only [hji3] at H
   have hji3w : (IntKind.i64.wrap (x8_1 * 384)) = ji3 := (i64_w _).trans hji3
   obtain ⟨c4, H⟩ := iN_ H
   have c4b0 := eq_true c4
   have c4b1 := decide_eq_true c4
   clear c4
   obtain ⟨c5, H⟩ := iN_ H
   have c5b0 := eq_true c5
   have c5b1 := decide_eq_true c5
   obtain ⟨c6, H⟩ := iN_ H
   have c6b0 := eq_true c6
   have c6b1 := decide_eq_true c6
   obtain ⟨⟨t1105, t1106⟩, A7, H⟩ := bN_ H
   by_cases c8 : t1106 = true
   ·subst c8
    replace H := iT_ H
    obtain ⟨c9, H⟩ := iN_ H
    have LMc9 := Aside0.mk c9
    clear c9
    obtain ⟨y1109, hy1109⟩ : ∃ y_ : List (List Int), y_ = (x4_1 ++ [t1105]) := ⟨_, rfl⟩
    first | replace H := yb_ hy1109 H | rw [← hy1109] at H
    have Ny1109 := Aside0.mk hy1109
    clear hy1109
    have H' := Aside0.mk H
    clear H
    go_wp2_with (first | ((with_reducible refine gate_callee (f := 93) rfl ?_); refine goesL_ (some 19) rfl rfl Try.func93 (by kernel_rfl) rfl #[.string (a0.extract ((ji3) : Int).toNat ((wrap64 ((wrap64 (x8_1 + 1)) * 384)) : Int).toNat)] rfl (by (try simp only [List.map_toArray, List.map_cons, List.map_nil]); first | done | (simp only [hji3]; rfl) | rfl | (simp only [List.length_drop, List.length_take]; rfl)) ?_; (with_reducible refine (impl_PolyFrom.calls k1 (a0.extract ((ji3) : Int).toNat ((wrap64 ((wrap64 (x8_1 + 1)) * 384)) : Int).toNat) t1105 true _ A7.out).mono ?_); rintro e w10 ⟨v1107, rfl, ho0, hb⟩; refine ⟨_, rfl, ?_⟩; have n_ := b_ (Kd.S_elder' (rS_ HO_4.out) (Kd.R_base ho0) hb) <| b_ (Kd.R_lower ho0 (below_size (hB_))) <| c_ (below_step (hB_) hb); clear HO_4 HB; obtain ⟨HO_4, HO1108, HB⟩ := n_; obtain ⟨Ao12, co12, eo12⟩ := Kd.R_slice HO1108.out; subst eo12) | ((with_reducible refine gate_builtin (b := .append) (xs := #[.tmp 24, .tmp 26]) rfl ?_); at_builtin; refine Kd.S_append (Kd.slice 3 (Kd.int .i64)) (w0 := w) w.heap.size rfl (.tmp 24) (.tmp 26) 70 22 (.slice none 0 0) 24 rfl Try.underlying70 info22 rfl (by decide) (by omega) u4 x4_1 t1105 [.slice Ao12 t1105.length co12] (fun _ => True) (fun k_ => some k_ = (.slice Ao12 t1105.length co12 : Value).ownBlock) rfl rfl ?aP (fun k_ hk_ => ((Kd.R_mono (ok' := fun k_ => ((fun _ => True)) k_ ∧ some k_ ≠ (u4 : Value).ownBlock) (Kd.R_apart' (HO1108.out) (Kd.S_typed HO_4.out) (by decide)) (fun k_ hk => ⟨trivial, hk.2⟩))).1 k_ hk_.symm) ?aF ?aO ?aB ?aS ?aL ?_; (case aP => exact Kd.M_row (Kd.R_mono (Kd.R_tight rfl (Kd.R_mono (ok' := fun k_ => ((fun _ => True)) k_ ∧ some k_ ≠ (u4 : Value).ownBlock) (Kd.R_apart' (HO1108.out) (Kd.S_typed HO_4.out) (by decide)) (fun k_ hk => ⟨trivial, hk.2⟩))) (fun _ h_ => h_))); (case aB => exact (hB_)); (case aF => exact (fun _ _ => trivial)); (case aO => exact (by refine kS_ ?_; exact Kd.S_mono HO_4.out (fun k_ hk => ⟨trivial, fun e_ => hk.2 e_⟩))); (case aS => exact (below_size (hB_))); (case aL => have := LMc9.out; omega); intro v1110 w11 ho hb hg hat; rw [← Ny1109.out] at ho; have n_ := b_ (hb) <| c_ (ho); clear HO_4 HO1108 HB; obtain ⟨HB, HO1111⟩ := n_; clear ho hb hg hat))
    go_roundg k1
    case measure => have := HK1.out; omega
    case rel => exact ⟨(y1109), (wrap64 (x8_1 + 1)), f0_, H', ⟨by have := HK1.out; omega⟩, ⟨rS_ HO1111.out⟩, ⟨hB_⟩⟩
   ·replace c8 := Bool.eq_false_iff.mpr c8
    subst c8
    replace H := iF_ H
    simp only [Option.some.injEq, Prod.mk.injEq] at H
    obtain ⟨rfl, rfl⟩ := H
    go_wp2_with (first | ((with_reducible refine gate_callee (f := 93) rfl ?_); refine goesL_ (some 19) rfl rfl Try.func93 (by kernel_rfl) rfl #[.string (a0.extract ((ji3) : Int).toNat ((wrap64 ((wrap64 (x8_1 + 1)) * 384)) : Int).toNat)] rfl (by (try simp only [List.map_toArray, List.map_cons, List.map_nil]); first | done | (simp only [hji3]; rfl) | rfl | (simp only [List.length_drop, List.length_take]; rfl)) ?_; (with_reducible refine (impl_PolyFrom.calls k1 (a0.extract ((ji3) : Int).toNat ((wrap64 ((wrap64 (x8_1 + 1)) * 384)) : Int).toNat) t1105 false _ A7.out).mono ?_); rintro e w13 ⟨v1107, rfl, ho0, hb⟩; refine ⟨_, rfl, ?_⟩; have n_ := b_ (Kd.S_elder' (rS_ HO_4.out) (Kd.R_base ho0) hb) <| b_ (Kd.R_lower ho0 (below_size (hB_))) <| c_ (below_step (hB_) hb); clear HO_4 HB; obtain ⟨HO_4, HO1108, HB⟩ := n_; (try clear ho0)))
    go_ret2
    exact ⟨_, by first | rfl | (simp [errW_none, errW_some] <;> rfl) | (simp only [← hji3]; first | rfl | (simp [errW_none, errW_some] <;> rfl)) | (simp [*, errW_none, errW_some] <;> rfl), by first | exact Kd.S_nil _ _ _ _ _ | exact Kd.N_nil _ _ _ _ _ | exact Kd.V_nil _ _ _ _ _ | exact Kd.Q_nil _ _ _ _ _ | exact Kd.R_nil _ _ _ _ _, hB_⟩

/-! ### impl_PublicOk: function 59 -/
def impl_PublicOk.f (k : Nat) (a0 : ByteArray) : Option (Bool) := if (a0.size : Int) = 800 then ((impl_polysOf.f k a0).bind fun bt1112 => (some bt1112.2)) else (some false)
theorem impl_PublicOk.mono : ∀ a0 k, LeO (impl_PublicOk.f k a0) (impl_PublicOk.f (k + 1) a0) := by
 intro a0 k
 unfold impl_PublicOk.f
 exact o1_ impl_polysOf.mono
theorem impl_PublicOk.calls (k : Nat) (a0 : ByteArray) (r : Bool) (w : World) (h : impl_PublicOk.f k a0 = some r) :
  Calls Try.prog 59 #[.string a0] w fun e w' => e = .returned (.bool r) ∧ Below w.heap.size w w' := by
 have HB := Aside0.mk (Below.refl w.heap.size w)
 delta impl_PublicOk.f at h
 have H := h
 clear h
 by_cases c2 : (a0.size : Int) = 800
 ·rw [if_pos c2] at H
  have c2b0 : ((a0.size : Int) == 800) = true := beq_iff_eq.mpr c2
  have c2b1 : ((a0.size : Int) != 800) = false := bne_eq_false_iff_eq.mpr c2
  clear c2
  obtain ⟨⟨t1112, t1113⟩, A3, H⟩ := bN_ H
  obtain rfl := Option.some.inj H
  go_enter Try.func59, Try.ntmps59
  go_wp2_with (first | ((with_reducible refine gate_callee (f := 60) rfl ?_); refine goesL_ (some 10) rfl rfl Try.func60 (by kernel_rfl) rfl #[.string a0] rfl aM_ ?_; (with_reducible refine (impl_polysOf.calls k a0 t1112 t1113 _ A3.out).mono ?_); rintro e w4 ⟨v1114, rfl, ho0, hb⟩; refine ⟨_, rfl, ?_⟩; have n_ := b_ (Kd.S_lower ho0 (below_size (hB_))) <| c_ (below_step (hB_) hb); clear HB; obtain ⟨HO1115, HB⟩ := n_; (try clear ho0)))
  go_ret
  exact ⟨f1_, hB_⟩
 rw [if_neg c2] at H
 have c2b0 : ((a0.size : Int) == 800) = false := beq_eq_false_iff_ne.mpr c2
 have c2b1 : ((a0.size : Int) != 800) = true := bne_iff_ne.mpr c2
 obtain rfl := Option.some.inj H
 go_enter Try.func59, Try.ntmps59
 go_wp2
 go_ret
 exact ⟨f1_, hB_⟩

/-! ### impl_copyInts: function 97 -/
def impl_copyInts.f (l0 : List Int) : Option (List Int) := if ([] : List Int).length + l0.length < 17592186044416 then (some (([] : List Int) ++ l0)) else (none)
theorem impl_copyInts.calls (A0 : Option Addr) (c0 : Nat) (l0 : List Int) (r : List Int) (w : World) (hr0 : Kd.C (Kd.int .i64) w A0 l0.length l0) (hc0 : l0.length ≤ c0) (h : impl_copyInts.f l0 = some r) :
  Calls Try.prog 97 #[.slice A0 l0.length c0] w fun e w' => ∃ v0_ : Value, e = .returned (v0_) ∧ Kd.R (Kd.int .i64) 3 w' w.heap.size (fun _ => True) v0_ r ∧ Below w.heap.size w w' := by
 have HR0 := Aside0.mk hr0
 have HC0 := Aside0.mk hc0
 clear hr0 hc0
 have HB := Aside0.mk (Below.refl w.heap.size w)
 delta impl_copyInts.f at h
 have H := h
 clear h
 obtain ⟨c2, H⟩ := iN_ H
 have LMc2 := Aside0.mk c2
 clear c2
 obtain ⟨y1116, hy1116⟩ : ∃ y_ : List Int, y_ = (([] : List Int) ++ l0) := ⟨_, rfl⟩
 first | replace H := yb_ hy1116 H | rw [← hy1116] at H
 have Ny1116 := Aside0.mk hy1116
 clear hy1116
 obtain rfl := Option.some.inj H
 go_enter Try.func97, Try.ntmps97
 go_wp2_with (first | ((with_reducible refine gate_builtin (b := .append) (xs := #[.const (.slice none 0 0), .tmp 3]) rfl ?_); at_builtin; refine Kd.R_append_rows (Kd.int .i64) (w0 := w) w.heap.size rfl (.const (.slice none 0 0)) (.tmp 3) 22 3 (.int .i64 0) 8 rfl Try.underlying22 info3 rfl (by decide) (by omega) (.slice none 0 0) ([] : List Int) l0 _ _ _ (fun _ => True) (fun _ => False) rfl rfl ?aO ?aR (fun _ _ h => h) (fun _ h => h.elim) ?aF ?aB ?aS ?aL ?_; (case aR => exact cR_ HR0.out); (case aB => exact (hB_)); (case aF => exact (fun _ _ => trivial)); (case aO => exact ((Kd.R_nil _ _ _ _ (fun _ => True)))); (case aS => exact (below_size (hB_))); (case aL => have := LMc2.out; omega); intro v1117 w3 ho hb hg hat; rw [← Ny1116.out] at ho; have n_ := b_ (hb) <| c_ (ho); clear HB; obtain ⟨HB, HO1118⟩ := n_; clear ho hb hg hat))
 go_ret
 exact ⟨_, f1_, rR_ HO1118.out, hB_⟩

/-! ### impl_PowQ: function 98 -/
def impl_PowQ.l0 : Nat → Int → Int → Int → Option (Int)
 | 0, _, _, _ => none
 | k + 1, x0, x1, x5 => if x1 > 0 then (if (Int.tmod x1 2) = 1 then (impl_PowQ.l0 k (Int.tmod (wrap64 (x0 * x0)) 3329) (wrap64 (Int.tdiv x1 2)) (Int.tmod (wrap64 (x5 * x0)) 3329)) else (impl_PowQ.l0 k (Int.tmod (wrap64 (x0 * x0)) 3329) (wrap64 (Int.tdiv x1 2)) x5)) else (some x5)
def impl_PowQ.f (k : Nat) (a0 : Int) (a1 : Int) : Option (Int) := (impl_in.f a1 0 1000000000).bind fun t1119 => (if t1119 = true then ((impl_modQ.f a0).bind fun t1120 => (impl_PowQ.l0 k t1120 a1 1)) else (some 0))
theorem impl_PowQ.mono_l : ∀ k, (∀ y0 y1 y2, LeO (impl_PowQ.l0 k y0 y1 y2) (impl_PowQ.l0 (k + 1) y0 y1 y2))
 | 0 => fun _ _ _ r h => by simp [impl_PowQ.l0] at h
 | k + 1 => by
  have ih0 := impl_PowQ.mono_l k
  intros; unfold impl_PowQ.l0; exact o1_ ih0
theorem impl_PowQ.mono : ∀ a0 a1 k, LeO (impl_PowQ.f k a0 a1) (impl_PowQ.f (k + 1) a0 a1) := by
 intro a0 a1 k
 have ih0 := impl_PowQ.mono_l k
 unfold impl_PowQ.f
 exact o1_ ih0
theorem impl_PowQ.calls (k : Nat) (a0 : Int) (a1 : Int) (r : Int) (w : World) (h : impl_PowQ.f k a0 a1 = some r) :
  Calls Try.prog 98 #[.int .i64 a0, .int .i64 a1] w fun e w' => e = .returned (.int .i64 r) ∧ Drawn0 w w' := by
 delta impl_PowQ.f at h
 have H := h
 clear h
 obtain ⟨t1119, A3, H⟩ := bN_ H
 by_cases c4 : t1119 = true
 ·subst c4
  replace H := iT_ H
  obtain ⟨t1120, A5, H⟩ := bN_ H
  have H' := Aside0.mk H
  clear H
  go_enter Try.func98, Try.ntmps98
  go_wp2_with (first | ((with_reducible refine gate_callee (f := 41) rfl ?_); refine goesL_ (some 7) rfl rfl Try.func41 (by kernel_rfl) rfl #[.int .i64 a1, .int .i64 0, .int .i64 1000000000] rfl aM_ ?_; (with_reducible refine (impl_in.calls a1 0 1000000000 true _ A3.out).mono ?_); rintro e w' ⟨rfl, ⟨nd, rfl⟩⟩; refine ⟨_, rfl, ?_⟩) | ((with_reducible refine gate_callee (f := 33) rfl ?_); refine goesL_ (some 10) rfl rfl Try.func33 (by kernel_rfl) rfl #[.int .i64 a0] rfl aM_ ?_; (with_reducible refine (impl_modQ.calls a0 t1120 _ A5.out).mono ?_); rintro e w' ⟨rfl, ⟨nd, rfl⟩⟩; refine ⟨_, rfl, ?_⟩))
  go_loopg [0, 1, 5] k (fun kq v0 v1 v5 w' => ∃ (x0_1 : Int) (x1_1 : Int) (x5_1 : Int), v0 = .int .i64 x0_1 ∧ v1 = .int .i64 x1_1 ∧ v5 = .int .i64 x5_1 ∧ Aside0 (impl_PowQ.l0 kq x0_1 x1_1 x5_1 = some r) ∧ Aside0 (kq ≤ k) ∧ Drawn0 w w')
  case atStart => exact ⟨(t1120), (a1), (1), f0_, f0_, f0_, H', ⟨Nat.le_refl _⟩, d0_⟩
  case round =>
   clear H'
   obtain ⟨x0_1, x1_1, x5_1, rfl, rfl, rfl, HA, HK1, ⟨m1, rfl⟩⟩ := hrel
   cases gk with
   | zero => exact absurd HA.out (by simp [impl_PowQ.l0])
   | succ k1 =>
    have H := HA.out
    clear HA
    simp only [impl_PowQ.l0] at H
    by_cases c6 : x1_1 > 0
    ·rw [if_pos c6] at H
     have c6b0 := decide_eq_true c6
     clear c6
     by_cases c7 : (Int.tmod x1_1 2) = 1
     ·rw [if_pos c7] at H
      have c7b0 : ((Int.tmod x1_1 2) == 1) = true := beq_iff_eq.mpr c7
      have c7b1 : ((Int.tmod x1_1 2) != 1) = false := bne_eq_false_iff_eq.mpr c7
      clear c7
      have H' := Aside0.mk H
      clear H
      go_wp2
      go_roundg k1
      case measure => have := HK1.out; omega
      case rel => exact ⟨(Int.tmod (wrap64 (x0_1 * x0_1)) 3329), (wrap64 (Int.tdiv x1_1 2)), (Int.tmod (wrap64 (x5_1 * x0_1)) 3329), f0_, f0_, f0_, H', ⟨by have := HK1.out; omega⟩, d0_⟩
     rw [if_neg c7] at H
     have c7b0 : ((Int.tmod x1_1 2) == 1) = false := beq_eq_false_iff_ne.mpr c7
     have c7b1 : ((Int.tmod x1_1 2) != 1) = true := bne_iff_ne.mpr c7
     have H' := Aside0.mk H
     clear H
     go_wp2
     go_roundg k1
     case measure => have := HK1.out; omega
     case rel => exact ⟨(Int.tmod (wrap64 (x0_1 * x0_1)) 3329), (wrap64 (Int.tdiv x1_1 2)), (x5_1), f0_, f0_, f0_, H', ⟨by have := HK1.out; omega⟩, d0_⟩
    rw [if_neg c6] at H
    have c6b0 := decide_eq_false c6
    clear c6
    obtain rfl := Option.some.inj H
    go_wp2
    go_ret
    exact ⟨f0_, d0_⟩
 ·replace c4 := Bool.eq_false_iff.mpr c4
  subst c4
  replace H := iF_ H
  obtain rfl := Option.some.inj H
  go_enter Try.func98, Try.ntmps98
  go_wp2_with (first | ((with_reducible refine gate_callee (f := 41) rfl ?_); refine goesL_ (some 7) rfl rfl Try.func41 (by kernel_rfl) rfl #[.int .i64 a1, .int .i64 0, .int .i64 1000000000] rfl aM_ ?_; (with_reducible refine (impl_in.calls a1 0 1000000000 false _ A3.out).mono ?_); rintro e w' ⟨rfl, ⟨nd, rfl⟩⟩; refine ⟨_, rfl, ?_⟩))
  go_ret
  exact ⟨f0_, d0_⟩

/-! ### impl_Turn7: function 99 -/
def impl_Turn7.l0 : Nat → Int → Int → Int → Option (Int)
 | 0, _, _, _ => none
 | k + 1, x0, x3, x5 => if x5 < 7 then (if 0 ≤ x5 then (impl_Turn7.l0 k x0 (wrap64 ((wrap64 (2 * x3)) + (Go.bits .and .i64 (shr .i64 x0 x5) 1))) (wrap64 (x5 + 1))) else (none)) else (some x3)
def impl_Turn7.f (k : Nat) (a0 : Int) : Option (Int) := impl_Turn7.l0 k a0 0 0
theorem impl_Turn7.mono_l : ∀ k, (∀ y0 y1 y2, LeO (impl_Turn7.l0 k y0 y1 y2) (impl_Turn7.l0 (k + 1) y0 y1 y2))
 | 0 => fun _ _ _ r h => by simp [impl_Turn7.l0] at h
 | k + 1 => by
  have ih0 := impl_Turn7.mono_l k
  intros; unfold impl_Turn7.l0; exact o1_ ih0
theorem impl_Turn7.mono : ∀ a0 k, LeO (impl_Turn7.f k a0) (impl_Turn7.f (k + 1) a0) := by
 intro a0 k
 have ih0 := impl_Turn7.mono_l k
 unfold impl_Turn7.f
 exact o1_ ih0
theorem impl_Turn7.calls (k : Nat) (a0 : Int) (r : Int) (w : World) (h : impl_Turn7.f k a0 = some r) :
  Calls Try.prog 99 #[.int .i64 a0] w fun e w' => e = .returned (.int .i64 r) ∧ Drawn0 w w' := by
 delta impl_Turn7.f at h
 have H := h
 clear h
 have H' := Aside0.mk H
 clear H
 go_enter Try.func99, Try.ntmps99
 go_wp2
 go_loopg [3, 5] k (fun kq v3 v5 w' => ∃ (x3_1 : Int) (x5_1 : Int), v3 = .int .i64 x3_1 ∧ v5 = .int .i64 x5_1 ∧ Aside0 (impl_Turn7.l0 kq a0 x3_1 x5_1 = some r) ∧ Aside0 (kq ≤ k) ∧ Drawn0 w w')
 case atStart => exact ⟨(0), (0), f0_, f0_, H', ⟨Nat.le_refl _⟩, d0_⟩
 case round =>
  clear H'
  obtain ⟨x3_1, x5_1, rfl, rfl, HA, HK1, ⟨m1, rfl⟩⟩ := hrel
  cases gk with
  | zero => exact absurd HA.out (by simp [impl_Turn7.l0])
  | succ k1 =>
   have H := HA.out
   clear HA
   simp only [impl_Turn7.l0] at H
   by_cases c2 : x5_1 < 7
   ·rw [if_pos c2] at H
    have c2b0 := decide_eq_true c2
    clear c2
    obtain ⟨c3, H⟩ := iN_ H
    have c3b0 := eq_true c3
    have c3b1 := decide_eq_true c3
    clear c3
    obtain ⟨ji4, hji4⟩ : ∃ j_ : Int, (shr .i64 a0 x5_1) = j_ := ⟨_, rfl⟩
    first | rw [hji4] at H | simp only [hji4] at H
    have hji4_ : (a0 / 2 ^ min x5_1.toNat 64) = ji4 := hji4
    have hji4z : x5_1 ≤ 64 → (a0 / 2 ^ x5_1.toNat) = ji4 := shr_small hji4
    have H' := Aside0.mk H
    clear H
    go_wp2
    go_roundg k1
    case measure => have := HK1.out; omega
    case rel => exact ⟨(wrap64 ((wrap64 (2 * x3_1)) + (Go.bits .and .i64 (ji4) 1))), (wrap64 (x5_1 + 1)), (by first | rfl | (simp; done) | (simp only [← hji4] <;> (first | rfl | simp)) | (simp [*]; done)), f0_, H', ⟨by have := HK1.out; omega⟩, d0_⟩
   rw [if_neg c2] at H
   have c2b0 := decide_eq_false c2
   clear c2
   obtain rfl := Option.some.inj H
   go_wp2
   go_ret
   exact ⟨f0_, d0_⟩

/-! ### impl_Ntt: function 94 -/
theorem impl_Ntt.cell_setCell_drewN (w : World) (n : Nat) (a b : Addr) (v : Value) : ((w.drewN n).setCell a v).cell? b = (w.setCell a v).cell? b := rfl
theorem impl_Ntt.frozen_setCell (w : World) (a b : Addr) (v : Value) : (w.setCell a v).frozen? b = w.frozen? b := World.frozen?_setCell w a b v
attribute [local go_sem] impl_Ntt.cell_setCell_drewN
mutual
def impl_Ntt.l0 : Nat → List Int → Int → Int → Option (List Int)
 | 0, _, _, _ => none
 | k + 1, x3, x4, x5 => if x5 ≥ 2 then (impl_Ntt.l1 k x3 x4 x5 0) else (some x3)
def impl_Ntt.l1 : Nat → List Int → Int → Int → Int → Option (List Int)
 | 0, _, _, _, _ => none
 | k + 1, x3, x4, x5, x6 => if x6 < 256 then ((impl_Turn7.f k x4).bind fun t1125 => ((impl_PowQ.f k 17 t1125).bind fun t1126 => (impl_Ntt.l2 k x3 (wrap64 (x4 + 1)) x5 x6 t1126 x6))) else (impl_Ntt.l0 k x3 x4 (wrap64 (Int.tdiv x5 2)))
def impl_Ntt.l2 : Nat → List Int → Int → Int → Int → Int → Int → Option (List Int)
 | 0, _, _, _, _, _, _ => none
 | k + 1, x3, x4, x5, x6, x7, x8 => if x8 < (wrap64 (x6 + x5)) then (if 0 ≤ (wrap64 (x8 + x5)) then (if (wrap64 (x8 + x5)) < (x3.length : Int) then (if 0 ≤ x8 then (if x8 < (x3.length : Int) then ((impl_modQ.f (wrap64 ((rd x3 x8) + (wrap64 (x7 * (rd x3 (wrap64 (x8 + x5)))))))).bind fun t1129 => ((impl_modQ.f (wrap64 ((rd x3 x8) - (wrap64 (x7 * (rd x3 (wrap64 (x8 + x5)))))))).bind fun t1131 => (impl_Ntt.l2 k ((x3.set (x8 : Int).toNat t1129).set ((wrap64 (x8 + x5)) : Int).toNat t1131) x4 x5 x6 x7 (wrap64 (x8 + 1))))) else (none)) else (none)) else (none)) else (none)) else (impl_Ntt.l1 k x3 x4 x5 (wrap64 (x6 + (wrap64 (2 * x5)))))
end
def impl_Ntt.f (k : Nat) (l0 : List Int) : Option (List Int) := (impl_PolyOk.f k l0).bind fun t1121 => (if t1121 = true then ((impl_copyInts.f l0).bind fun t1122 => (impl_Ntt.l0 k t1122 1 128)) else (some ([] : List Int)))
theorem impl_Ntt.mono_l : ∀ k, (∀ y0 y1 y2, LeO (impl_Ntt.l0 k y0 y1 y2) (impl_Ntt.l0 (k + 1) y0 y1 y2)) ∧ (∀ y0 y1 y2 y3, LeO (impl_Ntt.l1 k y0 y1 y2 y3) (impl_Ntt.l1 (k + 1) y0 y1 y2 y3)) ∧ (∀ y0 y1 y2 y3 y4 y5, LeO (impl_Ntt.l2 k y0 y1 y2 y3 y4 y5) (impl_Ntt.l2 (k + 1) y0 y1 y2 y3 y4 y5))
 | 0 => ⟨fun _ _ _ r h => by simp [impl_Ntt.l0] at h, fun _ _ _ _ r h => by simp [impl_Ntt.l1] at h, fun _ _ _ _ _ _ r h => by simp [impl_Ntt.l2] at h⟩
 | k + 1 => by
  obtain ⟨ih0, ih1, ih2⟩ := impl_Ntt.mono_l k
  refine ⟨?_, ?_, ?_⟩ <;> (intros; (first | unfold impl_Ntt.l0 | unfold impl_Ntt.l1 | unfold impl_Ntt.l2); exact o6_ ih0 ih1 ih2 impl_PolyOk.mono impl_PowQ.mono impl_Turn7.mono)
theorem impl_Ntt.mono : ∀ a0 k, LeO (impl_Ntt.f k a0) (impl_Ntt.f (k + 1) a0) := by
 intro a0 k
 obtain ⟨ih0, ih1, ih2⟩ := impl_Ntt.mono_l k
 unfold impl_Ntt.f
 exact o6_ ih0 ih1 ih2 impl_PolyOk.mono impl_PowQ.mono impl_Turn7.mono
def impl_Ntt.T17 : Bool × List (List Nat × List Nat) := (true, [([], []), ([], []), ([], []), ([], []), ([], []), ([3, 4], [3, 4]), ([], []), ([], []), ([6, 7], [6, 7]), ([8], [8]), ([], []), ([9, 10], [9, 10]), ([11], [11]), ([], []), ([], []), ([13, 14], [13, 14]), ([15], [15]), ([], []), ([16, 17], [16, 17]), ([18, 12], [18]), ([0, 1, 0, 1, 6, 7, 8, 9, 10, 11, 12, 16, 19], [0, 1]), ([20, 12, 19, 0, 1, 6, 7, 8, 9, 10, 11, 12, 16, 19], [12, 20]), ([2, 5, 0, 1, 2, 3, 4, 5, 6, 7, 8, 9, 10, 11, 12, 13, 14, 15, 16, 17, 18, 19, 20, 21], [2, 5]), ([22, 19, 21, 0, 1, 2, 3, 4, 5, 6, 7, 8, 9, 10, 11, 12, 13, 14, 15, 16, 17, 18, 19, 20, 21], [19, 22])])
def impl_Ntt.B17 : List Nat := [0, 0, 0, 0, 0, 24, 0, 0, 192, 448, 0, 1984, 4032, 0, 0, 24576, 57344, 0, 253952, 524224, 1048515, 2097091, 4194303, 8388607]
theorem impl_Ntt.tab17 : rtab .any (opsOf Try.f94 17) = impl_Ntt.T17 := by kernel_rfl
theorem impl_Ntt.bits17 : waitsOk impl_Ntt.T17.2 impl_Ntt.B17 = true := by kernel_rfl
theorem impl_Ntt.calls (k : Nat) (A0 : Option Addr) (c0 : Nat) (l0 : List Int) (r : List Int) (w : World) (hr0 : Kd.C (Kd.int .i64) w A0 l0.length l0) (hc0 : l0.length ≤ c0) (h : impl_Ntt.f k l0 = some r) :
  Calls Try.prog 94 #[.slice A0 l0.length c0] w fun e w' => ∃ v0_ : Value, e = .returned (v0_) ∧ Kd.R (Kd.int .i64) 3 w' w.heap.size (fun _ => True) v0_ r ∧ Below w.heap.size w w' := by
 have HR0 := Aside0.mk hr0
 have HC0 := Aside0.mk hc0
 clear hr0 hc0
 have HB := Aside0.mk (Below.refl w.heap.size w)
 delta impl_Ntt.f at h
 have H := h
 clear h
 obtain ⟨t1121, A2, H⟩ := bN_ H
 by_cases c3 : t1121 = true
 ·subst c3
  replace H := iT_ H
  obtain ⟨t1122, A4, H⟩ := bN_ H
  have H' := Aside0.mk H
  clear H
  go_enter Try.func94, Try.ntmps94
  go_wp2_with (first | ((with_reducible refine gate_callee (f := 17) rfl ?_); refine goesL_ (some 11) rfl rfl Try.func17 (by kernel_rfl) rfl #[.slice A0 l0.length c0] rfl aM_ ?_; (with_reducible refine (impl_PolyOk.calls k _ _ l0 true _ ?side1 ?side2 A2.out).mono ?_); (case side1 => exact cR_ HR0.out); (case side2 => exact HC0.out); rintro e w' ⟨rfl, ⟨nd, rfl⟩⟩; refine ⟨_, rfl, ?_⟩) | ((with_reducible refine gate_callee (f := 97) rfl ?_); refine goesL_ (some 14) rfl rfl Try.func97 (by kernel_rfl) rfl #[.slice A0 l0.length c0] rfl aM_ ?_; (with_reducible refine (impl_copyInts.calls _ _ l0 t1122 _ ?side1 ?side2 A4.out).mono ?_); (case side1 => exact cR_ HR0.out); (case side2 => exact HC0.out); rintro e w5 ⟨v1123, rfl, ho0, hb⟩; refine ⟨_, rfl, ?_⟩; have n_ := b_ (Kd.R_lower ho0 (below_size (hB_))) <| c_ (below_step (hB_) hb); clear HB; obtain ⟨HO1124, HB⟩ := n_; (try clear ho0)))
  go_loopg [4, 5] k (fun kq v4 v5 w' => ∃ (x3_1 : List Int) (x4_1 : Int) (x5_1 : Int), v4 = .int .i64 x4_1 ∧ v5 = .int .i64 x5_1 ∧ Aside0 (impl_Ntt.l0 kq x3_1 x4_1 x5_1 = some r) ∧ Aside0 (kq ≤ k) ∧ Aside0 (Kd.R (Kd.int .i64) 3 w' w.heap.size (fun _ => True) v1123 x3_1) ∧ Aside0 (Below w.heap.size w w'))
  case atStart => exact ⟨(t1122), (1), (128), f0_, f0_, H', ⟨Nat.le_refl _⟩, ⟨rR_ HO1124.out⟩, ⟨hB_⟩⟩
  case round =>
   clear H'
   obtain ⟨x3_1, x4_1, x5_1, rfl, rfl, HA, HK1, HO_3, HB⟩ := hrel
   cases gk with
   | zero => exact absurd HA.out (by simp [impl_Ntt.l0])
   | succ k1 =>
    have H := HA.out
    clear HA
    simp only [impl_Ntt.l0] at H
    by_cases c6 : x5_1 ≥ 2
    rotate_left
    ·rw [if_neg c6] at H
     have c6b0 := decide_eq_false c6
     clear c6
     obtain rfl := Option.some.inj H
     go_wp2
     go_ret
     exact ⟨_, f1_, rR_ HO_3.out, hB_⟩
    rw [if_pos c6] at H
    have c6b0 := decide_eq_true c6
    clear c6
    have H' := Aside0.mk H
    clear H
    go_wp2
    go_loopg [4, 6] k1 (fun kq v4 v6 w' => ∃ (x3_2 : List Int) (x4_2 : Int) (x6_2 : Int), v4 = .int .i64 x4_2 ∧ v6 = .int .i64 x6_2 ∧ Aside0 (impl_Ntt.l1 kq x3_2 x4_2 x5_1 x6_2 = some r) ∧ Aside0 (kq ≤ k1) ∧ Aside0 (Kd.R (Kd.int .i64) 3 w' w.heap.size (fun _ => True) v1123 x3_2) ∧ Aside0 (Below w.heap.size w w'))
    case atStart => exact ⟨(x3_1), (x4_1), (0), f0_, f0_, H', ⟨Nat.le_refl _⟩, ⟨rR_ HO_3.out⟩, ⟨hB_⟩⟩
    case round =>
     clear H'
     obtain ⟨x3_2, x4_2, x6_2, rfl, rfl, HA, HK2, HO_3, HB⟩ := hrel
     cases gk with
     | zero => exact absurd HA.out (by simp [impl_Ntt.l1])
     | succ k2 =>
      have H := HA.out
      clear HA
      simp only [impl_Ntt.l1] at H
      by_cases c7 : x6_2 < 256
      rotate_left
      ·rw [if_neg c7] at H
       have c7b0 := decide_eq_false c7
       clear c7
       have H' := Aside0.mk H
       clear H
       go_wp2
       go_roundg k2
       case measure => have := HK1.out; have := HK2.out; omega
       case rel => exact ⟨(x3_2), (x4_2), (wrap64 (Int.tdiv x5_1 2)), f0_, f0_, H', ⟨by have := HK1.out; have := HK2.out; omega⟩, ⟨rR_ HO_3.out⟩, ⟨hB_⟩⟩
      rw [if_pos c7] at H
      have c7b0 := decide_eq_true c7
      clear c7
      obtain ⟨t1125, A8, H⟩ := bN_ H
      obtain ⟨t1126, A9, H⟩ := bN_ H
      have H' := Aside0.mk H
      clear H
      go_wp2_with (first | ((with_reducible refine gate_callee (f := 99) rfl ?_); refine goesL_ (some 26) rfl rfl Try.func99 (by kernel_rfl) rfl #[.int .i64 x4_2] rfl aM_ ?_; (with_reducible refine (impl_Turn7.calls k2 x4_2 t1125 _ A8.out).mono ?_); rintro e w' ⟨rfl, ⟨nd, rfl⟩⟩; refine ⟨_, rfl, ?_⟩) | ((with_reducible refine gate_callee (f := 98) rfl ?_); refine goesL_ (some 27) rfl rfl Try.func98 (by kernel_rfl) rfl #[.int .i64 17, .int .i64 t1125] rfl aM_ ?_; (with_reducible refine (impl_PowQ.calls k2 17 t1125 t1126 _ A9.out).mono ?_); rintro e w' ⟨rfl, ⟨nd, rfl⟩⟩; refine ⟨_, rfl, ?_⟩))
      go_loopg [8] k2 (fun kq v8 w' => ∃ (x3_3 : List Int) (x8_3 : Int), v8 = .int .i64 x8_3 ∧ Aside0 (impl_Ntt.l2 kq x3_3 (wrap64 (x4_2 + 1)) x5_1 x6_2 t1126 x8_3 = some r) ∧ Aside0 (kq ≤ k2) ∧ Aside0 (Kd.R (Kd.int .i64) 3 w' w.heap.size (fun _ => True) v1123 x3_3) ∧ Aside0 (Below w.heap.size w w'))
      case atStart => exact ⟨(x3_2), (x6_2), f0_, H', ⟨Nat.le_refl _⟩, ⟨rR_ HO_3.out⟩, ⟨hB_⟩⟩
      case round =>
       clear H'
       obtain ⟨x3_3, x8_3, rfl, HA, HK3, HO_3, HB⟩ := hrel
       cases gk with
       | zero => exact absurd HA.out (by simp [impl_Ntt.l2])
       | succ k3 =>
        have H := HA.out
        clear HA
        simp only [impl_Ntt.l2] at H
        by_cases c10 : x8_3 < (wrap64 (x6_2 + x5_1))
        rotate_left
        ·rw [if_neg c10] at H
         have c10b0 := decide_eq_false c10
         clear c10
         have H' := Aside0.mk H
         clear H
         go_wp2
         go_roundg k3
         case measure => have := HK1.out; have := HK2.out; have := HK3.out; omega
         case rel => exact ⟨(x3_3), ((wrap64 (x4_2 + 1))), (wrap64 (x6_2 + (wrap64 (2 * x5_1)))), f0_, f0_, H', ⟨by have := HK1.out; have := HK2.out; have := HK3.out; omega⟩, ⟨rR_ HO_3.out⟩, ⟨hB_⟩⟩
        rw [if_pos c10] at H
        have c10b0 := decide_eq_true c10
        clear c10
        obtain ⟨ji11, hji11⟩ : ∃ j_ : Int, (wrap64 (x8_3 + x5_1)) = j_ := ⟨_, rfl⟩
        first | rw [hji11] at H | simp only [hji11] at H
        have hji11w : (IntKind.i64.wrap (x8_3 + x5_1)) = ji11 := (i64_w _).trans hji11
        obtain ⟨c12b0, H⟩ := iD_ H
        obtain ⟨c13b0, H⟩ := iD_ H
        obtain ⟨c14b0, H⟩ := iD_ H
        obtain ⟨c15b0, H⟩ := iD_ H
        obtain ⟨t1129, A16, H⟩ := bN_ H
        obtain ⟨t1131, A17, H⟩ := bN_ H
        obtain ⟨y1132, hy1132⟩ : ∃ y_ : List Int, y_ = (x3_3.set (x8_3 : Int).toNat t1129) := ⟨_, rfl⟩
        first | replace H := yb_ hy1132 H | rw [← hy1132] at H
        have Ny1132 := Aside0.mk hy1132
        clear hy1132
        obtain ⟨y1133, hy1133⟩ : ∃ y_ : List Int, y_ = (y1132.set ((ji11) : Int).toNat t1131) := ⟨_, rfl⟩
        first | replace H := yb_ hy1133 H | rw [← hy1133] at H
        have Ny1133 := Aside0.mk hy1133
        clear hy1133
        have H' := Aside0.mk H
        clear H
        obtain ⟨Ao20, co20, eo20⟩ := Kd.R_slice HO_3.out
        subst eo20
        have p1127 : 0 ≤ ((ji11) : Int) := oD_
        have q1127 : (ji11) < (x3_3.length : Int) := oD_
        obtain ⟨ad1127, e1127, hx1127_0⟩ := Kd.at_int (Kd.R_reads' HO_3.out).2.2 (ji11) p1127 q1127
        cases e1127
        replace p1127 := eq_true p1127
        replace q1127 := eq_true q1127
        try go_wp2
        have n_ := b_ (Kd.R_drew HO_3.out) <| c_ (below_drew1 HB.out)
        clear HO_3 HB
        obtain ⟨HO_3, HB⟩ := n_
        have p1128 : 0 ≤ (x8_3 : Int) := oD_
        have q1128 : x8_3 < (x3_3.length : Int) := oD_
        obtain ⟨ad1128, e1128, hx1128_0⟩ := Kd.at_int (Kd.R_reads' HO_3.out).2.2 x8_3 p1128 q1128
        obtain rfl : ad1127 = ad1128 := (by injection e1128)
        replace p1128 := eq_true p1128
        replace q1128 := eq_true q1128
        have p1130 : 0 ≤ (x8_3 : Int) := oD_
        have q1130 : x8_3 < (x3_3.length : Int) := oD_
        obtain ⟨ad1130, e1130, hx1130_0⟩ := Kd.at_int (Kd.R_reads' HO_3.out).2.2 x8_3 p1130 q1130
        obtain rfl : ad1127 = ad1130 := (by injection e1130)
        replace p1130 := eq_true p1130
        replace q1130 := eq_true q1130
        refine start_ (n := 24) (S := fun w' => w'.cell? (ad1127.add (x8_3).toNat) = some (.int .i64 (rd x3_3 x8_3)) ∧ w'.cell? (ad1127.add (x8_3).toNat) = some (.int .i64 (rd x3_3 x8_3))) (ds := [21, 23]) (bb_ 24 0) (by kernel_rfl) rfl rfl ⟨hx1128_0, hx1130_0⟩ (fun hHeld => ?_); refine with_tabW impl_Ntt.tab17 impl_Ntt.bits17 (fun HT_ HW_ => ?_)
        generalize wr.drew = w21 at HO_3 HB hx1128_0 hx1130_0 hHeld ⊢
        refine pS_ 0 46 (bb_ 24 1) HT_.out ?_
        refine pS_ 1 47 (bb_ 24 3) HT_.out ?_
        refine pS_ 2 48 (bb_ 24 7) HT_.out ?_
        refine pS_ 3 49 (bb_ 24 15) HT_.out ?_
        refine pS_ 4 50 (bb_ 24 31) HT_.out ?_
        refine pS_ 5 51 (bb_ 24 63) HT_.out ?_
        refine pS_ 6 52 (bb_ 24 127) HT_.out ?_
        refine pS_ 7 53 (bb_ 24 255) HT_.out ?_
        refine pS_ 8 54 (bb_ 24 511) HT_.out ?_
        refine pS_ 10 56 (bb_ 24 1535) HT_.out ?_
        refine pS_ 13 59 (bb_ 24 9727) HT_.out ?_
        refine pS_ 14 60 (bb_ 24 26111) HT_.out ?_
        refine pS_ 15 61 (bb_ 24 58879) HT_.out ?_
        refine pS_ 17 63 (bb_ 24 189951) HT_.out ?_
        refine tS_ 9 55 (bb_ 24 190463) (take_ofW HT_.out HW_.out (by kernel_rfl)) hHeld ?_
        refine pS_ 11 57 (bb_ 24 192511) HT_.out ?_
        refine tS_ 16 62 (bb_ 24 258047) (take_ofW HT_.out HW_.out (by kernel_rfl)) hHeld ?_
        refine pS_ 18 64 (bb_ 24 520191) HT_.out ?_
        refine one_ (i := 12) (N := some 58) (bb_ 24 524287) rfl rfl (one_of HT_.out (by kernel_rfl)) (by decide) (fun K hK => ?_)
        refine goes_ Try.func33 (by kernel_rfl) rfl #[.int .i64 (wrap64 ((rd x3_3 x8_3) + (wrap64 (t1126 * (rd x3_3 (ji11))))))] (by rfl) rfl rfl (by (try simp only [List.map_toArray, List.map_cons, List.map_nil]); first | done | (simp only [hji11]; rfl) | rfl | (simp only [List.length_drop, List.length_take]; rfl)) ?_
        with_reducible refine (impl_modQ.calls (wrap64 ((rd x3_3 x8_3) + (wrap64 (t1126 * (rd x3_3 (ji11)))))) t1129 _ A16.out).mono ?_
        rintro e w' ⟨rfl, ⟨nd, rfl⟩⟩
        refine ⟨_, rfl, ?_⟩
        refine hK.out _ _ ⟨hHeld.1, hHeld.2⟩ (fun hHeld => ?_)
        clear hK K
        refine norm_ (a' := ?_) ?_ ?_
        rotate_left
        ·show Act.put _ (some 58) _ = _
         simp only [Act.put, List.setIfInBounds_toArray, List.set_cons_zero, List.set_cons_succ, i64_w, i32_w]
         rfl
        refine one_ (i := 19) (N := some 65) (bb_ 24 1048575) rfl rfl (one_of HT_.out (by kernel_rfl)) (by decide) (fun K hK => ?_)
        refine goes_ Try.func33 (by kernel_rfl) rfl #[.int .i64 (wrap64 ((rd x3_3 x8_3) - (wrap64 (t1126 * (rd x3_3 (ji11))))))] (by rfl) rfl rfl (by (try simp only [List.map_toArray, List.map_cons, List.map_nil]); first | done | (simp only [hji11]; rfl) | rfl | (simp only [List.length_drop, List.length_take]; rfl)) ?_
        with_reducible refine (impl_modQ.calls (wrap64 ((rd x3_3 x8_3) - (wrap64 (t1126 * (rd x3_3 (ji11)))))) t1131 _ A17.out).mono ?_
        rintro e w' ⟨rfl, ⟨nd, rfl⟩⟩
        refine ⟨_, rfl, ?_⟩
        have p18 : 0 ≤ (x8_3 : Int) := oD_
        have q18 : (x8_3 : Int) < ((x3_3.length : Int) : Int) := oD_
        obtain ⟨go18, co18, eo18, gb18, gl18, cl18, HG18⟩ := Kd.R_form HO_3.out (by omega)
        (first | cases eo18 | (injection eo18 with ea_ en_ ec_; (first | subst ea_ | (injection ea_ with ea_; subst ea_)); subst ec_; clear en_))
        have GB18 := Aside0.mk gb18
        have GG18 := Aside0.mk HG18
        clear gb18 gl18 HG18
        (first | simp only [add_plain] at hx1127_0 | skip)
        (first | simp only [add_plain] at hx1128_0 | skip)
        (first | simp only [add_plain] at hx1130_0 | skip)
        obtain ⟨hx18_0, hf18_0⟩ := Kd.R_celln 0 HO_3.out (x8_3 : Int) p18 q18
        replace p18 := eq_true p18
        replace q18 := eq_true q18
        have HP22 := Kd.R_putn HO_3.out (x8_3 : Int) t1129
        rw [← Ny1132.out] at HP22
        have HQ22 := Aside0.mk HP22
        clear HP22
        have p19 : 0 ≤ ((ji11) : Int) := oD_
        have q19 : ((ji11) : Int) < ((x3_3.length : Int) : Int) := oD_
        obtain ⟨hx19_0, hf19_0⟩ := Kd.R_celln 0 HQ22.out ((ji11) : Int) p19 q19
        (first | simp only [impl_Ntt.frozen_setCell] at hf19_0 | skip)
        replace p19 := eq_true p19
        replace q19 := eq_true q19
        have HP23 := Kd.R_putn HQ22.out ((ji11) : Int) t1131
        rw [← Ny1133.out] at HP23
        have HQ23 := Aside0.mk HP23
        clear HP23
        refine hK.out _ _ ⟨hHeld.1, hHeld.2⟩ (fun hHeld => ?_)
        clear hK K
        refine norm_ (a' := ?_) ?_ ?_
        rotate_left
        ·show Act.put _ (some 65) _ = _
         simp only [Act.put, List.setIfInBounds_toArray, List.set_cons_zero, List.set_cons_succ, i64_w, i32_w]
         rfl
        refine pS_ 20 66 (bb_ 24 2097151) HT_.out ?_
        refine last_ (i := 21) (N := none) (bb_ 24 4194303) rfl rfl (one_of HT_.out (by kernel_rfl)) (by decide) (fun K hK => ?_)
        refine skip_ (w1 := ?_) (by rfl) rfl ?_ ?_
        rotate_left
        ·go_simp
         rfl
        refine hK.out _ _ ?_
        clear hK K
        refine pS_ 22 67 (bb_ 24 8388607) HT_.out ?_
        refine last_ (i := 23) (N := none) (bb_ 24 16777215) rfl rfl (one_of HT_.out (by kernel_rfl)) (by decide) (fun K hK => ?_)
        refine skip_ (w1 := ?_) (by rfl) rfl ?_ ?_
        rotate_left
        ·go_simp
         rfl
        refine hK.out _ _ ?_
        clear hK K
        refine done_ (done_of HT_.out (by kernel_rfl)) ?_
        try go_wp2
        go_roundg k3
        case measure => have := HK1.out; have := HK2.out; have := HK3.out; omega
        case rel => exact ⟨(y1133), (wrap64 (x8_3 + 1)), f0_, H', ⟨by have := HK1.out; have := HK2.out; have := HK3.out; omega⟩, ⟨rR_ HQ23.out⟩, ⟨(u4_ GB18.out GB18.out)⟩⟩
 ·replace c3 := Bool.eq_false_iff.mpr c3
  subst c3
  replace H := iF_ H
  obtain rfl := Option.some.inj H
  go_enter Try.func94, Try.ntmps94
  go_wp2_with (first | ((with_reducible refine gate_callee (f := 17) rfl ?_); refine goesL_ (some 11) rfl rfl Try.func17 (by kernel_rfl) rfl #[.slice A0 l0.length c0] rfl aM_ ?_; (with_reducible refine (impl_PolyOk.calls k _ _ l0 false _ ?side1 ?side2 A2.out).mono ?_); (case side1 => exact cR_ HR0.out); (case side2 => exact HC0.out); rintro e w' ⟨rfl, ⟨nd, rfl⟩⟩; refine ⟨_, rfl, ?_⟩))
  go_ret
  exact ⟨_, f1_, by first | exact Kd.R_nil _ _ _ _ _ | exact Kd.N_nil _ _ _ _ _ | exact Kd.V_nil _ _ _ _ _ | exact Kd.Q_nil _ _ _ _ _ | exact Kd.S_nil _ _ _ _ _, hB_⟩

end Go.Proofs.Ytnckhligcdieaaa.P
