-- printed texts of this session, regrouped
import Derived.Test.YthdjmbbkenbeiaaDoorMWC
import Derived.Test.YthdjmbbkenbeiaaDoorMWA
import Derived.Test.YthdjmbbkenbeiaaDoorMW7
import Derived.Test.YthdjmbbkenbeiaaDoorMW6
import Derived.Test.YthdjmbbkenbeiaaDoorHA4
import Derived.Test.YthdjmbbkenbeiaaDoorPx0
import Derived.Test.YthdjmbbkenbeiaaDoorPx4
import Derived.Test.YthdjmbbkenbeiaaDoorPx9
namespace Go.Proofs.YthdjmbbkenbeiaaDoor.P
open Go.RowKit Go.Proofs.YthdjmbbkenbeiaaDoorW.PrintWords Go.Proofs.YthdjmbbkenbeiaaDoorW.PrintLast Go.Proofs.YthdjmbbkenbeiaaDoorW.PrintMore
attribute [local go_sem] max2_int min2_int max_two min_two max_three min_three max_four min_four   -- for this text's walks alone
set_option linter.unusedVariables false
set_option linter.unusedSimpArgs false

/-! ### impl_PairOf: function 5 -/
def impl_PairOf.l0 : Nat → ByteArray → ByteArray → List (List Int) → List (List Int) → ByteArray → ByteArray → Int → Option (ByteArray × ByteArray × Bool)
 | 0, _, _, _, _, _, _, _ => none
 | k + 1, x4, x5, x7, x8, x9, x10, x30 => if x30 < 2 then ((impl_row.f k x5 x30 false).bind fun t611 => ((impl_dot.f k t611 x7).bind fun t614 => (if 0 ≤ x30 then (if x30 < (x8.length : Int) then ((impl_PolyAdd.f k t614 (rd_L4 x8 x30)).bind fun t618 => ((impl_PolyBytes.f k t618).bind fun t621 => (if x9.size + t621.size ≤ 9223372036854775807 then (if x30 < (x7.length : Int) then ((impl_PolyBytes.f k (rd_L4 x7 x30)).bind fun t623 => (if x10.size + t623.size ≤ 9223372036854775807 then (impl_PairOf.l0 k x4 x5 x7 x8 (x9 ++ t621) (x10 ++ t623) (wrap64 (x30 + 1))) else (none))) else (none)) else (none)))) else (none)) else (none)))) else (if x9.size + x5.size ≤ 9223372036854775807 then (if x10.size + (x9 ++ x5).size ≤ 9223372036854775807 then ((impl_DigestOf.f (x9 ++ x5)).bind fun t609 => (if (x10 ++ (x9 ++ x5)).size + t609.size ≤ 9223372036854775807 then (if x4.size + 1 ≤ 9223372036854775807 then ((impl_DigestOf.f (x4 ++ (⟨#[122]⟩ : ByteArray))).bind fun t610 => (if ((x10 ++ (x9 ++ x5)) ++ t609).size + t610.size ≤ 9223372036854775807 then (some (x9 ++ x5, ((x10 ++ (x9 ++ x5)) ++ t609) ++ t610, true)) else (none))) else (none)) else (none))) else (none)) else (none))
def impl_PairOf.f (k : Nat) (a0 : ByteArray) : Option (ByteArray × ByteArray × Bool) := if (a0.size : Int) = 32 then ((impl_DigestOf.f a0).bind fun t594 => (if t594.size + 1 ≤ 9223372036854775807 then ((impl_DigestOf.f (t594 ++ (⟨#[114]⟩ : ByteArray))).bind fun t595 => ((impl_DigestOf.f (t594 ++ (⟨#[115]⟩ : ByteArray))).bind fun t596 => ((impl_smalls.f k t596 0).bind fun t597 => ((impl_ntts.f k t597).bind fun t600 => ((impl_smalls.f k t596 2).bind fun t603 => ((impl_ntts.f k t603).bind fun t606 => (impl_PairOf.l0 k t594 t595 t600 t606 (⟨#[]⟩ : ByteArray) (⟨#[]⟩ : ByteArray) 0))))))) else (none))) else (some ((⟨#[]⟩ : ByteArray), (⟨#[]⟩ : ByteArray), false))
theorem impl_PairOf.mono_l : ∀ k, (∀ y0 y1 y2 y3 y4 y5 y6, LeO (impl_PairOf.l0 k y0 y1 y2 y3 y4 y5 y6) (impl_PairOf.l0 (k + 1) y0 y1 y2 y3 y4 y5 y6))
 | 0 => fun _ _ _ _ _ _ _ r h => by simp [impl_PairOf.l0] at h
 | k + 1 => by
  have ih0 := impl_PairOf.mono_l k
  intros; unfold impl_PairOf.l0; exact o7_ ih0 impl_PolyAdd.mono impl_PolyBytes.mono impl_dot.mono impl_ntts.mono impl_row.mono impl_smalls.mono
theorem impl_PairOf.mono : ∀ a0 k, LeO (impl_PairOf.f k a0) (impl_PairOf.f (k + 1) a0) := by
 intro a0 k
 have ih0 := impl_PairOf.mono_l k
 unfold impl_PairOf.f
 exact o7_ ih0 impl_PolyAdd.mono impl_PolyBytes.mono impl_dot.mono impl_ntts.mono impl_row.mono impl_smalls.mono
def impl_PairOf.T10 : Bool × List (List Nat × List Nat) := (true, [([], []), ([], []), ([], []), ([1, 2], [1, 2]), ([], []), ([3, 4, 3], [3, 4]), ([], []), ([], []), ([6, 7], [6, 7]), ([8], [8]), ([5, 9, 5], [5, 9]), ([10, 10], [10]), ([0, 11], [0, 11]), ([12, 11, 0, 1, 2, 3, 4, 5, 6, 7, 8, 9, 10, 11, 12], [0, 12])])
def impl_PairOf.B10 : List Nat := [0, 0, 0, 6, 0, 30, 0, 0, 192, 448, 1022, 2046, 4095, 8191]
theorem impl_PairOf.tab10 : rtab .any (opsOf Tryd.f5 10) = impl_PairOf.T10 := by kernel_rfl
theorem impl_PairOf.bits10 : waitsOk impl_PairOf.T10.2 impl_PairOf.B10 = true := by kernel_rfl
set_option maxHeartbeats 8000000 in
set_option maxRecDepth 100000 in
theorem impl_PairOf.calls (k : Nat) (a0 : ByteArray) (r1 : ByteArray) (r2 : ByteArray) (r3 : Bool) (w : World) (h : impl_PairOf.f k a0 = some (r1, r2, r3)) (hLD : Laid w) :
  Calls Tryd.prog 5 #[.string a0] w fun e w' => e = .returned (.tuple #[.agg #[.string r1, .string r2], .bool r3]) ∧ Below w.heap.size w w' := by
 have HLD := Aside0.mk hLD
 clear hLD
 have hu23 := Tryd.underlying23
 have HB := Aside0.mk (Below.refl w.heap.size w)
 delta impl_PairOf.f at h
 have H := h
 clear h
 by_cases c2 : (a0.size : Int) = 32
 rotate_left
 ·rw [if_neg c2] at H
  have c2b0 : ((a0.size : Int) == 32) = false := beq_eq_false_iff_ne.mpr c2
  have c2b1 : ((a0.size : Int) != 32) = true := bne_iff_ne.mpr c2
  simp only [Option.some.injEq, Prod.mk.injEq] at H
  obtain ⟨rfl, rfl, rfl⟩ := H
  go_enter Tryd.func5, Tryd.ntmps5
  go_wp2_with (first | ((with_reducible refine gate_dst (N := 2) rfl ?_); refine box_event ?hg (N := 2) ?hd (cs := #[.string (⟨#[]⟩ : ByteArray), .string (⟨#[]⟩ : ByteArray)]) (t := 23) ?hr ?_; (case hd => rfl); (case hg => rfl); (case hr => first | (go_simp; done) | (go_simp; rfl)); intro gb593 hg w53 hbox hb; have n_ := b_ (below_step (hB_) hb) <| b_ (hbox) <| b_ (by rw [hg]; exact (below_size (hB_)) : w.heap.size ≤ gb593) <| c_ (by rw [hg]; exact (below_size (hB_)) : w.heap.size ≤ gb593); clear HB; obtain ⟨HB, BK593, GW593, GE593⟩ := n_; clear hb hbox hg; have hcz54_0 : w53.cell? ⟨gb593, 0, none⟩ = some (.string (⟨#[]⟩ : ByteArray)) := (blk_cell BK593.out 0).trans rfl; have hcz54_1 : w53.cell? ⟨gb593, 1, none⟩ = some (.string (⟨#[]⟩ : ByteArray)) := (blk_cell BK593.out 1).trans rfl; have hfz54_0 := blk_frozen BK593.out 0; have hfz54_1 := blk_frozen BK593.out 1))
  refine bodyPost_ret (results_ct rfl _ _ gb593 23 #[.string (⟨#[]⟩ : ByteArray), .string (⟨#[]⟩ : ByteArray)] (0, 0) _ rfl (by refine kK_ ?_; refine blk_put (cs := #[.string (⟨#[]⟩ : ByteArray), .string (⟨#[]⟩ : ByteArray)]) ?_ 1 _ rfl; refine kK_ ?_; refine blk_put (cs := #[.string (⟨#[]⟩ : ByteArray), .string (⟨#[]⟩ : ByteArray)]) ?_ 0 _ rfl; exact rK_ BK593.out) Tryd.underlying23 rfl (by kernel_rfl)) rfl ?_
  exact ⟨f1_, hS_ GE593.out⟩
 rw [if_pos c2] at H
 have c2b0 : ((a0.size : Int) == 32) = true := beq_iff_eq.mpr c2
 have c2b1 : ((a0.size : Int) != 32) = false := bne_eq_false_iff_eq.mpr c2
 clear c2
 obtain ⟨t594, A3, H⟩ := bN_ H
 obtain ⟨c4, H⟩ := iN_ H
 have c4b0 := eq_true c4
 have c4b1 := decide_eq_true c4
 try have c4b2 : (9223372036854775807 < t594.size + 1) = False := eq_false (Nat.not_lt.2 c4)
 obtain ⟨t595, A5, H⟩ := bN_ H
 obtain ⟨t596, A6, H⟩ := bN_ H
 obtain ⟨t597, A7, H⟩ := bN_ H
 obtain ⟨t600, A8, H⟩ := bN_ H
 obtain ⟨t603, A9, H⟩ := bN_ H
 obtain ⟨t606, A10, H⟩ := bN_ H
 have H' := Aside0.mk H
 clear H
 go_enter Tryd.func5, Tryd.ntmps5
 go_wp2_with (first | ((with_reducible refine gate_dst (N := 2) rfl ?_); refine box_event ?hg (N := 2) ?hd (cs := #[.string (⟨#[]⟩ : ByteArray), .string (⟨#[]⟩ : ByteArray)]) (t := 23) ?hr ?_; (case hd => rfl); (case hg => rfl); (case hr => first | (go_simp; done) | (go_simp; rfl)); intro gb593 hg w11 hbox hb; have n_ := b_ (below_step (hB_) hb) <| b_ (hbox) <| b_ (by rw [hg]; exact (below_size (hB_)) : w.heap.size ≤ gb593) <| c_ (by rw [hg]; exact (below_size (hB_)) : w.heap.size ≤ gb593); clear HB; obtain ⟨HB, BK593, GW593, GE593⟩ := n_; clear hb hbox hg) | ((with_reducible refine gate_callee (f := 14) rfl ?_); refine goesL_ (some 17) rfl rfl Tryd.func14 (by kernel_rfl) rfl #[.string a0] rfl aM_ ?_; (with_reducible refine (impl_DigestOf.calls a0 t594 _ A3.out (HLD.out.below HLD.out.pos (hS_ GE593.out))).mono ?_); rintro e w12 ⟨rfl, hb⟩; refine ⟨_, rfl, ?_⟩; have n_ := b_ (blk_below (g := gb593) (o := .cells #[.string (⟨#[]⟩ : ByteArray), .string (⟨#[]⟩ : ByteArray)] 23 (0, 0)) (rK_ BK593.out) hb) <| c_ (below_step (hS_ GE593.out) hb); clear BK593 HB; obtain ⟨BK593, HB⟩ := n_; (try clear hb)) | ((with_reducible refine gate_callee (f := 14) rfl ?_); refine goesL_ (some 20) rfl rfl Tryd.func14 (by kernel_rfl) rfl #[.string (t594 ++ (⟨#[114]⟩ : ByteArray))] rfl aM_ ?_; (with_reducible refine (impl_DigestOf.calls (t594 ++ (⟨#[114]⟩ : ByteArray)) t595 _ A5.out (HLD.out.below HLD.out.pos (hS_ GE593.out))).mono ?_); rintro e w13 ⟨rfl, hb⟩; refine ⟨_, rfl, ?_⟩; have n_ := b_ (blk_below (g := gb593) (o := .cells #[.string (⟨#[]⟩ : ByteArray), .string (⟨#[]⟩ : ByteArray)] 23 (0, 0)) (rK_ BK593.out) hb) <| c_ (below_step (hS_ GE593.out) hb); clear BK593 HB; obtain ⟨BK593, HB⟩ := n_; (try clear hb)) | ((with_reducible refine gate_callee (f := 14) rfl ?_); refine goesL_ (some 23) rfl rfl Tryd.func14 (by kernel_rfl) rfl #[.string (t594 ++ (⟨#[115]⟩ : ByteArray))] rfl aM_ ?_; (with_reducible refine (impl_DigestOf.calls (t594 ++ (⟨#[115]⟩ : ByteArray)) t596 _ A6.out (HLD.out.below HLD.out.pos (hS_ GE593.out))).mono ?_); rintro e w14 ⟨rfl, hb⟩; refine ⟨_, rfl, ?_⟩; have n_ := b_ (blk_below (g := gb593) (o := .cells #[.string (⟨#[]⟩ : ByteArray), .string (⟨#[]⟩ : ByteArray)] 23 (0, 0)) (rK_ BK593.out) hb) <| c_ (below_step (hS_ GE593.out) hb); clear BK593 HB; obtain ⟨BK593, HB⟩ := n_; (try clear hb)) | ((with_reducible refine gate_callee (f := 16) rfl ?_); refine goesL_ (some 25) rfl rfl Tryd.func16 (by kernel_rfl) rfl #[.string t596, .int .i64 0] rfl aM_ ?_; (with_reducible refine (impl_smalls.calls k t596 0 t597 _ A7.out).mono ?_); rintro e w15 ⟨v598, rfl, ho0, hb⟩; refine ⟨_, rfl, ?_⟩; have n_ := b_ (Kd.S_lower ho0 (below_size (hS_ GE593.out))) <| b_ (blk_below (g := gb593) (o := .cells #[.string (⟨#[]⟩ : ByteArray), .string (⟨#[]⟩ : ByteArray)] 23 (0, 0)) (rK_ BK593.out) hb) <| c_ (below_step (hS_ GE593.out) hb); clear BK593 HB; obtain ⟨HO599, BK593, HB⟩ := n_; obtain ⟨Ao16, co16, eo16⟩ := Kd.S_slice HO599.out; subst eo16) | ((with_reducible refine gate_callee (f := 15) rfl ?_); refine goesL_ (some 26) rfl rfl Tryd.func15 (by kernel_rfl) rfl #[.slice Ao16 t597.length co16] rfl aM_ ?_; (with_reducible refine (impl_ntts.calls k _ _ t597 t600 _ ?side1 ?side2 A8.out).mono ?_); (case side1 => exact cR_ (Kd.S_reads' HO599.out).2.2); (case side2 => exact (Kd.S_reads' HO599.out).2.1); rintro e w17 ⟨v601, rfl, ho0, hb⟩; refine ⟨_, rfl, ?_⟩; have n_ := b_ (Kd.S_elder' (rS_ HO599.out) (Kd.S_base ho0) hb) <| b_ (Kd.S_lower (Kd.S_new' ho0 (Kd.S_lt (rS_ HO599.out))) (below_size (hS_ GE593.out))) <| b_ (blk_below (g := gb593) (o := .cells #[.string (⟨#[]⟩ : ByteArray), .string (⟨#[]⟩ : ByteArray)] 23 (0, 0)) (rK_ BK593.out) hb) <| c_ (below_step (hS_ GE593.out) hb); clear HO599 BK593 HB; obtain ⟨HO599, HO602, BK593, HB⟩ := n_; (try clear ho0)) | ((with_reducible refine gate_callee (f := 16) rfl ?_); refine goesL_ (some 28) rfl rfl Tryd.func16 (by kernel_rfl) rfl #[.string t596, .int .i64 2] rfl aM_ ?_; (with_reducible refine (impl_smalls.calls k t596 2 t603 _ A9.out).mono ?_); rintro e w18 ⟨v604, rfl, ho0, hb⟩; refine ⟨_, rfl, ?_⟩; have n_ := b_ (Kd.S_elder' (rS_ HO599.out) (Kd.S_base ho0) hb) <| b_ (Kd.S_elder' (rS_ HO602.out) (Kd.S_base ho0) hb) <| b_ (Kd.S_lower (Kd.S_new' (Kd.S_new' ho0 (Kd.S_lt (rS_ HO599.out))) (Kd.S_lt (rS_ HO602.out))) (below_size (hS_ GE593.out))) <| b_ (blk_below (g := gb593) (o := .cells #[.string (⟨#[]⟩ : ByteArray), .string (⟨#[]⟩ : ByteArray)] 23 (0, 0)) (rK_ BK593.out) hb) <| c_ (below_step (hS_ GE593.out) hb); clear HO599 HO602 BK593 HB; obtain ⟨HO599, HO602, HO605, BK593, HB⟩ := n_; obtain ⟨Ao19, co19, eo19⟩ := Kd.S_slice HO605.out; subst eo19) | ((with_reducible refine gate_callee (f := 15) rfl ?_); refine goesL_ (some 29) rfl rfl Tryd.func15 (by kernel_rfl) rfl #[.slice Ao19 t603.length co19] rfl aM_ ?_; (with_reducible refine (impl_ntts.calls k _ _ t603 t606 _ ?side1 ?side2 A10.out).mono ?_); (case side1 => exact cR_ (Kd.S_reads' HO605.out).2.2); (case side2 => exact (Kd.S_reads' HO605.out).2.1); rintro e w20 ⟨v607, rfl, ho0, hb⟩; refine ⟨_, rfl, ?_⟩; have n_ := b_ (Kd.S_elder' (rS_ HO599.out) (Kd.S_base ho0) hb) <| b_ (Kd.S_elder' (rS_ HO602.out) (Kd.S_base ho0) hb) <| b_ (Kd.S_elder' (rS_ HO605.out) (Kd.S_base ho0) hb) <| b_ (Kd.S_lower (Kd.S_new' (Kd.S_new' (Kd.S_new' ho0 (Kd.S_lt (rS_ HO599.out))) (Kd.S_lt (rS_ HO602.out))) (Kd.S_lt (rS_ HO605.out))) (below_size (hS_ GE593.out))) <| b_ (blk_below (g := gb593) (o := .cells #[.string (⟨#[]⟩ : ByteArray), .string (⟨#[]⟩ : ByteArray)] 23 (0, 0)) (rK_ BK593.out) hb) <| c_ (below_step (hS_ GE593.out) hb); clear HO599 HO602 HO605 BK593 HB; obtain ⟨HO599, HO602, HO605, HO608, BK593, HB⟩ := n_; (try clear ho0)))
 go_loopg [9, 10, 30] k (fun kq v9 v10 v30 w' => ∃ (x9_1 : ByteArray) (x10_1 : ByteArray) (x30_1 : Int), v9 = .string x9_1 ∧ v10 = .string x10_1 ∧ v30 = .int .i64 x30_1 ∧ Aside0 (impl_PairOf.l0 kq t594 t595 t600 t606 x9_1 x10_1 x30_1 = some (r1, r2, r3)) ∧ Aside0 (kq ≤ k) ∧ Aside0 (Kd.S (Kd.slice 3 (Kd.int .i64)) 31 w' w.heap.size (fun k_ => some k_ ≠ (v607 : Value).ownBlock) v601 t600) ∧ Aside0 (Kd.S (Kd.slice 3 (Kd.int .i64)) 31 w' w.heap.size (fun k_ => some k_ ≠ (v601 : Value).ownBlock) v607 t606) ∧ Aside0 (w'.heap[gb593]? = some (.cells #[.string (⟨#[]⟩ : ByteArray), .string (⟨#[]⟩ : ByteArray)] 23 (0, 0))) ∧ Aside0 (Below w.heap.size w w'))
 case atStart => exact ⟨((⟨#[]⟩ : ByteArray)), ((⟨#[]⟩ : ByteArray)), (0), f0_, f0_, f0_, H', ⟨Nat.le_refl _⟩, ⟨by refine kS_ ?_; exact Kd.S_mono HO602.out (fun _ hk => hk.2)⟩, ⟨by refine kS_ ?_; exact Kd.S_mono HO608.out (fun _ hk => hk.1.2)⟩, ⟨by refine kK_ ?_; exact BK593.out⟩, ⟨hS_ GE593.out⟩⟩
 case round =>
  clear H'
  obtain ⟨x9_1, x10_1, x30_1, rfl, rfl, rfl, HA, HK1, HO_7, HO_8, BK593, HB⟩ := hrel
  cases gk with
  | zero => exact absurd HA.out (by simp [impl_PairOf.l0])
  | succ k1 =>
   have H := HA.out
   clear HA
   simp only [impl_PairOf.l0] at H
   by_cases c21 : x30_1 < 2
   rotate_left
   ·rw [if_neg c21] at H
    have c21b0 := decide_eq_false c21
    clear c21
    obtain ⟨c43, H⟩ := iN_ H
    have c43b0 := eq_true c43
    have c43b1 := decide_eq_true c43
    try have c43b2 : (9223372036854775807 < x9_1.size + t595.size) = False := eq_false (Nat.not_lt.2 c43)
    obtain ⟨c44, H⟩ := iN_ H
    have c44b0 := eq_true c44
    have c44b1 := decide_eq_true c44
    try have c44b2 : (9223372036854775807 < x10_1.size + (x9_1 ++ t595).size) = False := eq_false (Nat.not_lt.2 c44)
    try (have c44b9 : (9223372036854775807 < x10_1.size + (x9_1 ++ t595).size) = False := c44b2; simp only [ByteArray.size_append] at c44b9)
    obtain ⟨t609, A45, H⟩ := bN_ H
    obtain ⟨c46, H⟩ := iN_ H
    have c46b0 := eq_true c46
    have c46b1 := decide_eq_true c46
    try have c46b2 : (9223372036854775807 < (x10_1 ++ (x9_1 ++ t595)).size + t609.size) = False := eq_false (Nat.not_lt.2 c46)
    try (have c46b9 : (9223372036854775807 < (x10_1 ++ (x9_1 ++ t595)).size + t609.size) = False := c46b2; simp only [ByteArray.size_append] at c46b9)
    obtain ⟨c47, H⟩ := iN_ H
    have c47b0 := eq_true c47
    have c47b1 := decide_eq_true c47
    try have c47b2 : (9223372036854775807 < t594.size + 1) = False := eq_false (Nat.not_lt.2 c47)
    obtain ⟨t610, A48, H⟩ := bN_ H
    obtain ⟨c49, H⟩ := iN_ H
    have c49b0 := eq_true c49
    have c49b1 := decide_eq_true c49
    try have c49b2 : (9223372036854775807 < ((x10_1 ++ (x9_1 ++ t595)) ++ t609).size + t610.size) = False := eq_false (Nat.not_lt.2 c49)
    try (have c49b9 : (9223372036854775807 < ((x10_1 ++ (x9_1 ++ t595)) ++ t609).size + t610.size) = False := c49b2; simp only [ByteArray.size_append] at c49b9)
    simp only [Option.some.injEq, Prod.mk.injEq] at H
    obtain ⟨rfl, rfl, rfl⟩ := H
    go_wp2_with (first | ((with_reducible refine gate_callee (f := 14) rfl ?_); refine goesL_ (some 62) rfl rfl Tryd.func14 (by kernel_rfl) rfl #[.string (x9_1 ++ t595)] rfl aM_ ?_; (with_reducible refine (impl_DigestOf.calls (x9_1 ++ t595) t609 _ A45.out (HLD.out.below HLD.out.pos (hS_ GE593.out))).mono ?_); rintro e w50 ⟨rfl, hb⟩; refine ⟨_, rfl, ?_⟩; have n_ := b_ (Kd.S_below (rS_ HO_7.out) hb) <| b_ (Kd.S_below (rS_ HO_8.out) hb) <| b_ (blk_below (g := gb593) (o := .cells #[.string (⟨#[]⟩ : ByteArray), .string (⟨#[]⟩ : ByteArray)] 23 (0, 0)) (rK_ BK593.out) hb) <| c_ (below_step (hS_ GE593.out) hb); clear HO_7 HO_8 BK593 HB; obtain ⟨HO_7, HO_8, BK593, HB⟩ := n_; (try clear hb)) | ((with_reducible refine gate_callee (f := 14) rfl ?_); refine goesL_ (some 66) rfl rfl Tryd.func14 (by kernel_rfl) rfl #[.string (t594 ++ (⟨#[122]⟩ : ByteArray))] rfl aM_ ?_; (with_reducible refine (impl_DigestOf.calls (t594 ++ (⟨#[122]⟩ : ByteArray)) t610 _ A48.out (HLD.out.below HLD.out.pos (hS_ GE593.out))).mono ?_); rintro e w51 ⟨rfl, hb⟩; refine ⟨_, rfl, ?_⟩; have n_ := b_ (Kd.S_below (rS_ HO_7.out) hb) <| b_ (Kd.S_below (rS_ HO_8.out) hb) <| b_ (blk_below (g := gb593) (o := .cells #[.string (⟨#[]⟩ : ByteArray), .string (⟨#[]⟩ : ByteArray)] 23 (0, 0)) (rK_ BK593.out) hb) <| c_ (below_step (hS_ GE593.out) hb); clear HO_7 HO_8 BK593 HB; obtain ⟨HO_7, HO_8, BK593, HB⟩ := n_; have hcz52_0 : w51.cell? ⟨gb593, 0, none⟩ = some (.string (⟨#[]⟩ : ByteArray)) := (blk_cell BK593.out 0).trans rfl; have hcz52_1 : w51.cell? ⟨gb593, 1, none⟩ = some (.string (⟨#[]⟩ : ByteArray)) := (blk_cell BK593.out 1).trans rfl; have hfz52_0 := blk_frozen BK593.out 0; have hfz52_1 := blk_frozen BK593.out 1))
    refine bodyPost_ret (results_ct rfl _ _ gb593 23 #[.string (x9_1 ++ t595), .string (((x10_1 ++ (x9_1 ++ t595)) ++ t609) ++ t610)] (0, 0) _ rfl (by refine kK_ ?_; refine blk_put (cs := #[.string (x9_1 ++ t595), .string (⟨#[]⟩ : ByteArray)]) ?_ 1 _ rfl; refine kK_ ?_; refine blk_put (cs := #[.string (⟨#[]⟩ : ByteArray), .string (⟨#[]⟩ : ByteArray)]) ?_ 0 _ rfl; exact rK_ BK593.out) Tryd.underlying23 rfl (by kernel_rfl)) rfl ?_
    exact ⟨f1_, hS_ GE593.out⟩
   rw [if_pos c21] at H
   have c21b0 := decide_eq_true c21
   clear c21
   obtain ⟨t611, A22, H⟩ := bN_ H
   obtain ⟨t614, A23, H⟩ := bN_ H
   obtain ⟨c24b0, H⟩ := iD_ H
   obtain ⟨c25b0, H⟩ := iD_ H
   obtain ⟨t618, A26, H⟩ := bN_ H
   obtain ⟨t621, A27, H⟩ := bN_ H
   obtain ⟨c28, H⟩ := iN_ H
   have c28b0 := eq_true c28
   have c28b1 := decide_eq_true c28
   try have c28b2 : (9223372036854775807 < x9_1.size + t621.size) = False := eq_false (Nat.not_lt.2 c28)
   obtain ⟨c29b0, H⟩ := iD_ H
   obtain ⟨t623, A30, H⟩ := bN_ H
   obtain ⟨c31, H⟩ := iN_ H
   have c31b0 := eq_true c31
   have c31b1 := decide_eq_true c31
   try have c31b2 : (9223372036854775807 < x10_1.size + t623.size) = False := eq_false (Nat.not_lt.2 c31)
   have H' := Aside0.mk H
   clear H
   try go_wp2
   have n_ := b_ (Kd.S_drew HO_7.out) <| b_ (Kd.S_drew HO_8.out) <| b_ (blk_drew BK593.out) <| c_ (below_drew1 HB.out)
   clear HO_7 HO_8 BK593 HB
   obtain ⟨HO_7, HO_8, BK593, HB⟩ := n_
   obtain ⟨Ao33, co33, eo33⟩ := Kd.S_slice HO_8.out
   (first | subst eo33 | (injection eo33 with f1_ f2_ f3_; have f4_ := f1_.symm; have f5_ := f3_.symm; clear f1_ f2_ f3_; subst f4_; subst f5_))
   have p617 : 0 ≤ (x30_1 : Int) := oD_
   have q617 : x30_1 < (t606.length : Int) := oD_
   obtain ⟨ad617, A617_0, c617_0, e617, hx617_0, hl617_0, hi617_0⟩ := at_L4 (Kd.S_reads' HO_8.out).2.2 x30_1 p617 q617
   cases e617
   obtain ⟨ce617, hce617, hMe617, hcc617⟩ := Kd.S_get HO_8.out [] x30_1 p617 (by first | exact q617 | exact oD_ | (have e_ := (Kd.S_reads' HO_8.out).1; omega))
   obtain ⟨ve617_0, rfl, ge617_0⟩ := hMe617
   have hv617_0 := hcc617 0 _ rfl
   rw [Nat.add_zero, show ((Kd.slice 3 (Kd.int .i64))).sz = 1 from rfl, Nat.mul_one] at hv617_0
   replace hv617_0 := Option.some.inj (hv617_0.symm.trans hx617_0)
   rw [hv617_0] at ge617_0
   have HL617_0 := Aside0.mk (show Kd.R (Kd.int .i64) 3 _ _ _ _ (rd_L4 t606 x30_1) from ge617_0)
   clear hv617_0 ge617_0
   clear hcc617 hce617
   have HR617_0 := Aside0.mk hi617_0
   have HC617_0 := Aside0.mk hl617_0
   clear hi617_0 hl617_0
   replace p617 := eq_true p617
   replace q617 := eq_true q617
   refine start_ (n := 14) (S := fun w' => w'.cell? (ad617.add (x30_1).toNat) = some (.slice A617_0 (rd_L4 t606 x30_1).length c617_0)) (ds := []) (bb_ 14 0) (by kernel_rfl) rfl rfl (hx617_0) (fun hHeld => ?_); refine with_tabW impl_PairOf.tab10 impl_PairOf.bits10 (fun HT_ HW_ => ?_)
   generalize wr.drew = w32 at HO_7 HO_8 BK593 HB HL617_0 HR617_0 hx617_0 hHeld ⊢
   refine pS_ 0 33 (bb_ 14 1) HT_.out ?_
   refine pS_ 1 34 (bb_ 14 3) HT_.out ?_
   refine pS_ 2 35 (bb_ 14 7) HT_.out ?_
   refine pS_ 4 37 (bb_ 14 23) HT_.out ?_
   refine pS_ 6 39 (bb_ 14 87) HT_.out ?_
   refine pS_ 7 40 (bb_ 14 215) HT_.out ?_
   refine pS_ 8 41 (bb_ 14 471) HT_.out ?_
   refine tS_ 9 42 (bb_ 14 983) (take_ofW HT_.out HW_.out (by kernel_rfl)) hHeld ?_
   refine one_ (i := 3) (N := some 36) (bb_ 14 991) rfl rfl (one_of HT_.out (by kernel_rfl)) (by decide) (fun K hK => ?_)
   refine goes_ Tryd.func20 (by kernel_rfl) rfl #[.string t595, .int .i64 x30_1, .bool false] (by rfl) rfl rfl aM_ ?_
   with_reducible refine (impl_row.calls k1 t595 x30_1 false t611 _ A22.out).mono ?_
   rintro e w34 ⟨v612, rfl, ho0, hb⟩
   have HS0_ := (hb.cell (World.block_lt_of_cell? _ _ (hHeld))).trans (hHeld)
   refine ⟨_, rfl, ?_⟩
   have n_ := b_ (Kd.S_elder' (rS_ HO_7.out) (Kd.S_base ho0) hb) <| b_ (Kd.S_elder' (rS_ HO_8.out) (Kd.S_base ho0) hb) <| b_ (Kd.R_below (rR_ HL617_0.out) hb) <| b_ (Kd.S_lower (Kd.S_new' (Kd.S_new' (Kd.S_new' ho0 (Kd.S_lt (rS_ HO_7.out))) (Kd.S_lt (rS_ HO_8.out))) (Kd.R_lt (rR_ HL617_0.out))) (below_size (hS_ GE593.out))) <| b_ (blk_below (g := gb593) (o := .cells #[.string (⟨#[]⟩ : ByteArray), .string (⟨#[]⟩ : ByteArray)] 23 (0, 0)) (rK_ BK593.out) hb) <| b_ (Kd.C_below (by repeat (first | (with_reducible exact HR617_0.out) | (with_reducible refine Kd.C_alloc ?_ _) | (with_reducible refine Kd.C_drewN ?_ _) | (with_reducible refine Kd.C_drew ?_) | exact HR617_0.out)) hb) <| c_ (below_step (hS_ GE593.out) hb)
   clear HO_7 HO_8 HL617_0 BK593 HR617_0 HB
   obtain ⟨HO_7, HO_8, HL617_0, HO613, BK593, HR617_0, HB⟩ := n_
   obtain ⟨Ao35, co35, eo35⟩ := Kd.S_slice HO613.out
   (first | subst eo35 | (injection eo35 with f1_ f2_ f3_; have f4_ := f1_.symm; have f5_ := f3_.symm; clear f1_ f2_ f3_; subst f4_; subst f5_))
   obtain ⟨Ao36, co36, eo36⟩ := Kd.S_slice HO_7.out
   (first | subst eo36 | (injection eo36 with f1_ f2_ f3_; have f4_ := f1_.symm; have f5_ := f3_.symm; clear f1_ f2_ f3_; subst f4_; subst f5_))
   refine hK.out _ _ (HS0_) (fun hHeld => ?_)
   clear hK K
   refine norm_ (a' := ?_) ?_ ?_
   rotate_left
   ·show Act.put _ (some 36) _ = _
    simp only [Act.put, List.setIfInBounds_toArray, List.set_cons_zero, List.set_cons_succ, i64_w, i32_w]
    rfl
   refine one_ (i := 5) (N := some 38) (bb_ 14 1023) rfl rfl (one_of HT_.out (by kernel_rfl)) (by decide) (fun K hK => ?_)
   refine goes_ Tryd.func19 (by kernel_rfl) rfl #[.slice Ao35 t611.length co35, .slice Ao36 t600.length co36] (by rfl) rfl rfl aM_ ?_
   with_reducible refine (impl_dot.calls k1 _ _ t611 _ _ t600 t614 _ ?side1 ?side2 ?side3 ?side4 A23.out).mono ?_
   (case side1 => exact cR_ (Kd.S_reads' HO613.out).2.2)
   (case side2 => exact (Kd.S_reads' HO613.out).2.1)
   (case side3 => exact cR_ (Kd.S_reads' HO_7.out).2.2)
   (case side4 => exact (Kd.S_reads' HO_7.out).2.1)
   rintro e w37 ⟨v615, rfl, ho0, hb⟩
   have HS0_ := (hb.cell (World.block_lt_of_cell? _ _ (hHeld))).trans (hHeld)
   refine ⟨_, rfl, ?_⟩
   have n_ := b_ (Kd.S_elder' (rS_ HO_7.out) (Kd.R_base ho0) hb) <| b_ (Kd.S_elder' (rS_ HO_8.out) (Kd.R_base ho0) hb) <| b_ (Kd.R_elder' (rR_ HL617_0.out) (Kd.R_base ho0) hb) <| b_ (Kd.S_elder' (rS_ HO613.out) (Kd.R_base ho0) hb) <| b_ (Kd.R_lower (Kd.R_new' ho0 (Kd.R_lt (rR_ HL617_0.out))) (below_size (hS_ GE593.out))) <| b_ (blk_below (g := gb593) (o := .cells #[.string (⟨#[]⟩ : ByteArray), .string (⟨#[]⟩ : ByteArray)] 23 (0, 0)) (rK_ BK593.out) hb) <| b_ (Kd.C_below (by repeat (first | (with_reducible exact HR617_0.out) | (with_reducible refine Kd.C_alloc ?_ _) | (with_reducible refine Kd.C_drewN ?_ _) | (with_reducible refine Kd.C_drew ?_) | exact HR617_0.out)) hb) <| c_ (below_step (hS_ GE593.out) hb)
   clear HO_7 HO_8 HL617_0 HO613 BK593 HR617_0 HB
   obtain ⟨HO_7, HO_8, HL617_0, HO613, HO616, BK593, HR617_0, HB⟩ := n_
   obtain ⟨Ao38, co38, eo38⟩ := Kd.R_slice HO616.out
   (first | subst eo38 | (injection eo38 with f1_ f2_ f3_; have f4_ := f1_.symm; have f5_ := f3_.symm; clear f1_ f2_ f3_; subst f4_; subst f5_))
   refine hK.out _ _ (HS0_) (fun hHeld => ?_)
   clear hK K
   refine norm_ (a' := ?_) ?_ ?_
   rotate_left
   ·show Act.put _ (some 38) _ = _
    simp only [Act.put, List.setIfInBounds_toArray, List.set_cons_zero, List.set_cons_succ, i64_w, i32_w]
    rfl
   refine one_ (i := 10) (N := some 43) (bb_ 14 2047) rfl rfl (one_of HT_.out (by kernel_rfl)) (by decide) (fun K hK => ?_)
   refine goes_ Tryd.func18 (by kernel_rfl) rfl #[.slice Ao38 t614.length co38, .slice A617_0 (rd_L4 t606 x30_1).length c617_0] (by rfl) rfl rfl aM_ ?_
   with_reducible refine (impl_PolyAdd.calls k1 _ _ t614 _ _ (rd_L4 t606 x30_1) t618 _ ?side1 ?side2 ?side3 ?side4 A26.out).mono ?_
   (case side1 => exact cR_ (Kd.R_reads' HO616.out).2.2)
   (case side2 => exact (Kd.R_reads' HO616.out).2.1)
   (case side3 => repeat (first | exact (by repeat (first | (with_reducible exact HR617_0.out) | (with_reducible refine Kd.C_alloc ?_ _) | (with_reducible refine Kd.C_drewN ?_ _) | (with_reducible refine Kd.C_drew ?_) | exact HR617_0.out)) | (with_reducible refine Kd.C_alloc ?_ _) | (with_reducible refine Kd.C_drewN ?_ _) | (with_reducible refine Kd.C_drew ?_)))
   (case side4 => exact HC617_0.out)
   rintro e w39 ⟨v619, rfl, ho0, hb⟩
   have HS0_ := (hb.cell (World.block_lt_of_cell? _ _ (hHeld))).trans (hHeld)
   refine ⟨_, rfl, ?_⟩
   have n_ := b_ (Kd.S_elder' (rS_ HO_7.out) (Kd.R_base ho0) hb) <| b_ (Kd.S_elder' (rS_ HO_8.out) (Kd.R_base ho0) hb) <| b_ (Kd.R_elder' (rR_ HL617_0.out) (Kd.R_base ho0) hb) <| b_ (Kd.S_elder' (rS_ HO613.out) (Kd.R_base ho0) hb) <| b_ (Kd.R_elder' (rR_ HO616.out) (Kd.R_base ho0) hb) <| b_ (Kd.R_lower (Kd.R_new' (Kd.R_new' ho0 (Kd.R_lt (rR_ HL617_0.out))) (Kd.R_lt (rR_ HO616.out))) (below_size (hS_ GE593.out))) <| b_ (blk_below (g := gb593) (o := .cells #[.string (⟨#[]⟩ : ByteArray), .string (⟨#[]⟩ : ByteArray)] 23 (0, 0)) (rK_ BK593.out) hb) <| b_ (Kd.C_below (by repeat (first | (with_reducible exact HR617_0.out) | (with_reducible refine Kd.C_alloc ?_ _) | (with_reducible refine Kd.C_drewN ?_ _) | (with_reducible refine Kd.C_drew ?_) | exact HR617_0.out)) hb) <| c_ (below_step (hS_ GE593.out) hb)
   clear HO_7 HO_8 HL617_0 HO613 HO616 BK593 HR617_0 HB
   obtain ⟨HO_7, HO_8, HL617_0, HO613, HO616, HO620, BK593, HR617_0, HB⟩ := n_
   obtain ⟨Ao40, co40, eo40⟩ := Kd.R_slice HO620.out
   (first | subst eo40 | (injection eo40 with f1_ f2_ f3_; have f4_ := f1_.symm; have f5_ := f3_.symm; clear f1_ f2_ f3_; subst f4_; subst f5_))
   refine hK.out _ _ (HS0_) (fun hHeld => ?_)
   clear hK K
   refine norm_ (a' := ?_) ?_ ?_
   rotate_left
   ·show Act.put _ (some 43) _ = _
    simp only [Act.put, List.setIfInBounds_toArray, List.set_cons_zero, List.set_cons_succ, i64_w, i32_w]
    rfl
   refine one_ (i := 11) (N := some 44) (bb_ 14 4095) rfl rfl (one_of HT_.out (by kernel_rfl)) (by decide) (fun K hK => ?_)
   refine goes_ Tryd.func17 (by kernel_rfl) rfl #[.slice Ao40 t618.length co40] (by rfl) rfl rfl aM_ ?_
   with_reducible refine (impl_PolyBytes.calls k1 _ _ t618 t621 _ ?side1 ?side2 A27.out).mono ?_
   (case side1 => exact cR_ (Kd.R_reads' HO620.out).2.2)
   (case side2 => exact (Kd.R_reads' HO620.out).2.1)
   rintro e w41 ⟨rfl, hb⟩
   have HS0_ := (hb.cell (World.block_lt_of_cell? _ _ (hHeld))).trans (hHeld)
   refine ⟨_, rfl, ?_⟩
   have n_ := b_ (Kd.S_below (rS_ HO_7.out) hb) <| b_ (Kd.S_below (rS_ HO_8.out) hb) <| b_ (Kd.R_below (rR_ HL617_0.out) hb) <| b_ (Kd.S_below (rS_ HO613.out) hb) <| b_ (Kd.R_below (rR_ HO616.out) hb) <| b_ (Kd.R_below (rR_ HO620.out) hb) <| b_ (blk_below (g := gb593) (o := .cells #[.string (⟨#[]⟩ : ByteArray), .string (⟨#[]⟩ : ByteArray)] 23 (0, 0)) (rK_ BK593.out) hb) <| b_ (Kd.C_below (by repeat (first | (with_reducible exact HR617_0.out) | (with_reducible refine Kd.C_alloc ?_ _) | (with_reducible refine Kd.C_drewN ?_ _) | (with_reducible refine Kd.C_drew ?_) | exact HR617_0.out)) hb) <| c_ (below_step (hS_ GE593.out) hb)
   clear HO_7 HO_8 HL617_0 HO613 HO616 HO620 BK593 HR617_0 HB
   obtain ⟨HO_7, HO_8, HL617_0, HO613, HO616, HO620, BK593, HR617_0, HB⟩ := n_
   refine hK.out _ _ (HS0_) (fun hHeld => ?_)
   clear hK K
   refine norm_ (a' := ?_) ?_ ?_
   rotate_left
   ·show Act.put _ (some 44) _ = _
    simp only [Act.put, List.setIfInBounds_toArray, List.set_cons_zero, List.set_cons_succ, i64_w, i32_w]
    rfl
   refine pS_ 12 45 (bb_ 14 8191) HT_.out ?_
   refine pS_ 13 9 (bb_ 14 16383) HT_.out ?_
   refine done_ (done_of HT_.out (by kernel_rfl)) ?_
   have p622 : 0 ≤ (x30_1 : Int) := oD_
   have q622 : x30_1 < (t600.length : Int) := oD_
   obtain ⟨ad622, A622_0, c622_0, e622, hx622_0, hl622_0, hi622_0⟩ := at_L4 (Kd.S_reads' HO_7.out).2.2 x30_1 p622 q622
   cases e622
   obtain ⟨ce622, hce622, hMe622, hcc622⟩ := Kd.S_get HO_7.out [] x30_1 p622 (by first | exact q622 | exact oD_ | (have e_ := (Kd.S_reads' HO_7.out).1; omega))
   obtain ⟨ve622_0, rfl, ge622_0⟩ := hMe622
   have hv622_0 := hcc622 0 _ rfl
   rw [Nat.add_zero, show ((Kd.slice 3 (Kd.int .i64))).sz = 1 from rfl, Nat.mul_one] at hv622_0
   replace hv622_0 := Option.some.inj (hv622_0.symm.trans hx622_0)
   rw [hv622_0] at ge622_0
   have HL622_0 := Aside0.mk (show Kd.R (Kd.int .i64) 3 _ _ _ _ (rd_L4 t600 x30_1) from ge622_0)
   clear hv622_0 ge622_0
   clear hcc622 hce622
   have HR622_0 := Aside0.mk hi622_0
   have HC622_0 := Aside0.mk hl622_0
   clear hi622_0 hl622_0
   replace p622 := eq_true p622
   replace q622 := eq_true q622
   try go_wp2_with (first | ((with_reducible refine gate_callee (f := 17) rfl ?_); refine goesL_ (some 51) rfl rfl Tryd.func17 (by kernel_rfl) rfl #[.slice A622_0 (rd_L4 t600 x30_1).length c622_0] rfl aM_ ?_; (with_reducible refine (impl_PolyBytes.calls k1 _ _ (rd_L4 t600 x30_1) t623 _ ?side1 ?side2 A30.out).mono ?_); (case side1 => repeat (first | exact (by repeat (first | (with_reducible exact HR622_0.out) | (with_reducible refine Kd.C_alloc ?_ _) | (with_reducible refine Kd.C_drewN ?_ _) | (with_reducible refine Kd.C_drew ?_) | exact HR622_0.out)) | (with_reducible refine Kd.C_alloc ?_ _) | (with_reducible refine Kd.C_drewN ?_ _) | (with_reducible refine Kd.C_drew ?_))); (case side2 => exact HC622_0.out); rintro e w42 ⟨rfl, hb⟩; refine ⟨_, rfl, ?_⟩; have n_ := b_ (Kd.S_below (rS_ HO_7.out) hb) <| b_ (Kd.S_below (rS_ HO_8.out) hb) <| b_ (Kd.R_below (rR_ HL617_0.out) hb) <| b_ (Kd.S_below (rS_ HO613.out) hb) <| b_ (Kd.R_below (rR_ HO616.out) hb) <| b_ (Kd.R_below (rR_ HO620.out) hb) <| b_ (Kd.R_below (rR_ HL622_0.out) hb) <| b_ (blk_below (g := gb593) (o := .cells #[.string (⟨#[]⟩ : ByteArray), .string (⟨#[]⟩ : ByteArray)] 23 (0, 0)) (rK_ BK593.out) hb) <| b_ (Kd.C_below (by repeat (first | (with_reducible exact HR617_0.out) | (with_reducible refine Kd.C_alloc ?_ _) | (with_reducible refine Kd.C_drewN ?_ _) | (with_reducible refine Kd.C_drew ?_) | exact HR617_0.out)) hb) <| b_ (Kd.C_below (by repeat (first | (with_reducible exact HR622_0.out) | (with_reducible refine Kd.C_alloc ?_ _) | (with_reducible refine Kd.C_drewN ?_ _) | (with_reducible refine Kd.C_drew ?_) | exact HR622_0.out)) hb) <| c_ (below_step (hS_ GE593.out) hb); clear HO_7 HO_8 HL617_0 HO613 HO616 HO620 HL622_0 BK593 HR617_0 HR622_0 HB; obtain ⟨HO_7, HO_8, HL617_0, HO613, HO616, HO620, HL622_0, BK593, HR617_0, HR622_0, HB⟩ := n_; (try clear hb)))
   go_roundg k1
   case measure => have := HK1.out; omega
   case rel => exact ⟨(x9_1 ++ t621), (x10_1 ++ t623), (wrap64 (x30_1 + 1)), f0_, f0_, f0_, H', ⟨by have := HK1.out; omega⟩, ⟨by refine kS_ ?_; exact Kd.S_mono HO_7.out (fun _ hk => hk.1.1.1)⟩, ⟨by refine kS_ ?_; exact Kd.S_mono HO_8.out (fun _ hk => hk.1.1.1)⟩, ⟨by refine kK_ ?_; exact BK593.out⟩, ⟨hS_ GE593.out⟩⟩

end Go.Proofs.YthdjmbbkenbeiaaDoor.P
