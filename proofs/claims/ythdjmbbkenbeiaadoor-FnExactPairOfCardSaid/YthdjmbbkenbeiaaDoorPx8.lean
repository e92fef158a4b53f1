-- printed texts of this session, regrouped
import Derived.Test.YthdjmbbkenbeiaaDoorMWC
import Derived.Test.YthdjmbbkenbeiaaDoorMWB
import Derived.Test.YthdjmbbkenbeiaaDoorMWA
import Derived.Test.YthdjmbbkenbeiaaDoorMW7
import Derived.Test.YthdjmbbkenbeiaaDoorMW6
import Derived.Test.YthdjmbbkenbeiaaDoorPx0
import Derived.Test.YthdjmbbkenbeiaaDoorPx3
import Derived.Test.YthdjmbbkenbeiaaDoorPx5
import Derived.Test.YthdjmbbkenbeiaaDoorPx7
namespace Go.Proofs.YthdjmbbkenbeiaaDoor.P
open Go.RowKit Go.Proofs.YthdjmbbkenbeiaaDoorW.PrintWords Go.Proofs.YthdjmbbkenbeiaaDoorW.PrintLast Go.Proofs.YthdjmbbkenbeiaaDoorW.PrintMore
attribute [local go_sem] max2_int min2_int max_two min_two max_three min_three max_four min_four   -- for this text's walks alone
set_option linter.unusedVariables false
set_option linter.unusedSimpArgs false

/-! ### spec_PairOf: function 4 -/
mutual
def spec_PairOf.l0 : Nat → ByteArray → ByteArray → ByteArray → List (List Int) → List (List Int) → ByteArray → ByteArray → Int → Option (ByteArray × ByteArray × Bool)
 | 0, _, _, _, _, _, _, _, _ => none
 | k + 1, x4, x5, x6, x7, x8, x9, x10, x11 => if x11 < 2 then ((spec_Small.f k x6 x11).bind fun t418 => ((spec_Ntt.f k t418).bind fun t421 => (if x8.length < 5864062014805 then ((spec_PolyBytes.f k t421).bind fun t427 => (if x10.size + t427.size ≤ 9223372036854775807 then (spec_PairOf.l0 k x4 x5 x6 x7 (x8 ++ [t421]) x9 (x10 ++ t427) (wrap64 (x11 + 1))) else (none))) else (none)))) else (spec_PairOf.l1 k x4 x5 x6 x7 x8 x9 x10 0)
def spec_PairOf.l1 : Nat → ByteArray → ByteArray → ByteArray → List (List Int) → List (List Int) → ByteArray → ByteArray → Int → Option (ByteArray × ByteArray × Bool)
 | 0, _, _, _, _, _, _, _, _ => none
 | k + 1, x4, x5, x6, x7, x8, x9, x10, x13 => if x13 < 2 then (if 0 ≤ (wrap64 (x13 * 2)) then (if (wrap64 (x13 * 2)) ≤ (wrap64 ((wrap64 (x13 * 2)) + 2)) then (if (wrap64 ((wrap64 (x13 * 2)) + 2)) ≤ (x7.length : Int) then ((spec_l13Sum.f k ((x7.take ((wrap64 ((wrap64 (x13 * 2)) + 2)) : Int).toNat).drop ((wrap64 (x13 * 2)) : Int).toNat) x8).bind fun t434 => ((spec_Small.f k x6 (wrap64 (2 + x13))).bind fun t437 => ((spec_Ntt.f k t437).bind fun t440 => ((spec_PolyAdd.f k t434 t440).bind fun t443 => ((spec_PolyBytes.f k t443).bind fun t446 => (if x9.size + t446.size ≤ 9223372036854775807 then (spec_PairOf.l1 k x4 x5 x6 x7 x8 (x9 ++ t446) x10 (wrap64 (x13 + 1))) else (none))))))) else (none)) else (none)) else (none)) else (if x9.size + x5.size ≤ 9223372036854775807 then (if x10.size + (x9 ++ x5).size ≤ 9223372036854775807 then ((spec_DigestOf.f k (x9 ++ x5)).bind fun t428 => (if (x10 ++ (x9 ++ x5)).size + t428.size ≤ 9223372036854775807 then (if x4.size + 1 ≤ 9223372036854775807 then ((spec_DigestOf.f k (x4 ++ (⟨#[122]⟩ : ByteArray))).bind fun t429 => (if ((x10 ++ (x9 ++ x5)) ++ t428).size + t429.size ≤ 9223372036854775807 then (some (x9 ++ x5, ((x10 ++ (x9 ++ x5)) ++ t428) ++ t429, true)) else (none))) else (none)) else (none))) else (none)) else (none))
end
def spec_PairOf.f (k : Nat) (a0 : ByteArray) : Option (ByteArray × ByteArray × Bool) := if (a0.size : Int) = 32 then ((spec_DigestOf.f k a0).bind fun t409 => (if t409.size + 1 ≤ 9223372036854775807 then ((spec_DigestOf.f k (t409 ++ (⟨#[114]⟩ : ByteArray))).bind fun t410 => ((spec_DigestOf.f k (t409 ++ (⟨#[115]⟩ : ByteArray))).bind fun t411 => ((spec_l13Matrix.f k t410).bind fun t412 => (spec_PairOf.l0 k t409 t410 t411 t412 (([] : List (List Int))) (⟨#[]⟩ : ByteArray) (⟨#[]⟩ : ByteArray) 0)))) else (none))) else (some ((⟨#[]⟩ : ByteArray), (⟨#[]⟩ : ByteArray), false))
theorem spec_PairOf.mono_l : ∀ k, (∀ y0 y1 y2 y3 y4 y5 y6 y7, LeO (spec_PairOf.l0 k y0 y1 y2 y3 y4 y5 y6 y7) (spec_PairOf.l0 (k + 1) y0 y1 y2 y3 y4 y5 y6 y7)) ∧ (∀ y0 y1 y2 y3 y4 y5 y6 y7, LeO (spec_PairOf.l1 k y0 y1 y2 y3 y4 y5 y6 y7) (spec_PairOf.l1 (k + 1) y0 y1 y2 y3 y4 y5 y6 y7))
 | 0 => ⟨fun _ _ _ _ _ _ _ _ r h => by simp [spec_PairOf.l0] at h, fun _ _ _ _ _ _ _ _ r h => by simp [spec_PairOf.l1] at h⟩
 | k + 1 => by
  obtain ⟨ih0, ih1⟩ := spec_PairOf.mono_l k
  refine ⟨?_, ?_⟩ <;> (intros; (first | unfold spec_PairOf.l0 | unfold spec_PairOf.l1); exact o9_ ih0 ih1 spec_DigestOf.mono spec_Ntt.mono spec_PolyAdd.mono spec_PolyBytes.mono spec_Small.mono spec_l13Matrix.mono spec_l13Sum.mono)
theorem spec_PairOf.mono : ∀ a0 k, LeO (spec_PairOf.f k a0) (spec_PairOf.f (k + 1) a0) := by
 intro a0 k
 obtain ⟨ih0, ih1⟩ := spec_PairOf.mono_l k
 unfold spec_PairOf.f
 exact o9_ ih0 ih1 spec_DigestOf.mono spec_Ntt.mono spec_PolyAdd.mono spec_PolyBytes.mono spec_Small.mono spec_l13Matrix.mono spec_l13Sum.mono
set_option maxHeartbeats 8000000 in
set_option maxRecDepth 100000 in
theorem spec_PairOf.calls (k : Nat) (a0 : ByteArray) (r1 : ByteArray) (r2 : ByteArray) (r3 : Bool) (w : World) (h : spec_PairOf.f k a0 = some (r1, r2, r3)) :
  Calls Tryd.prog 4 #[.string a0] w fun e w' => e = .returned (.tuple #[.agg #[.string r1, .string r2], .bool r3]) ∧ Below w.heap.size w w' := by
 have hu23 := Tryd.underlying23
 have HB := Aside0.mk (Below.refl w.heap.size w)
 delta spec_PairOf.f at h
 have H := h
 clear h
 by_cases c2 : (a0.size : Int) = 32
 rotate_left
 ·rw [if_neg c2] at H
  have c2b0 : ((a0.size : Int) == 32) = false := beq_eq_false_iff_ne.mpr c2
  have c2b1 : ((a0.size : Int) != 32) = true := bne_iff_ne.mpr c2
  simp only [Option.some.injEq, Prod.mk.injEq] at H
  obtain ⟨rfl, rfl, rfl⟩ := H
  go_enter Tryd.func4, Tryd.ntmps4
  go_wp2_with (first | ((with_reducible refine gate_dst (N := 2) rfl ?_); refine box_event ?hg (N := 2) ?hd (cs := #[.string (⟨#[]⟩ : ByteArray), .string (⟨#[]⟩ : ByteArray)]) (t := 23) ?hr ?_; (case hd => rfl); (case hg => rfl); (case hr => first | (go_simp; done) | (go_simp; rfl)); intro gb408 hg w60 hbox hb; have n_ := b_ (below_step (hB_) hb) <| b_ (hbox) <| b_ (by rw [hg]; exact (below_size (hB_)) : w.heap.size ≤ gb408) <| c_ (by rw [hg]; exact (below_size (hB_)) : w.heap.size ≤ gb408); clear HB; obtain ⟨HB, BK408, GW408, GE408⟩ := n_; clear hb hbox hg; have hcz61_0 : w60.cell? ⟨gb408, 0, none⟩ = some (.string (⟨#[]⟩ : ByteArray)) := (blk_cell BK408.out 0).trans rfl; have hcz61_1 : w60.cell? ⟨gb408, 1, none⟩ = some (.string (⟨#[]⟩ : ByteArray)) := (blk_cell BK408.out 1).trans rfl; have hfz61_0 := blk_frozen BK408.out 0; have hfz61_1 := blk_frozen BK408.out 1))
  refine bodyPost_ret (results_ct rfl _ _ gb408 23 #[.string (⟨#[]⟩ : ByteArray), .string (⟨#[]⟩ : ByteArray)] (0, 0) _ rfl (by refine kK_ ?_; refine blk_put (cs := #[.string (⟨#[]⟩ : ByteArray), .string (⟨#[]⟩ : ByteArray)]) ?_ 1 _ rfl; refine kK_ ?_; refine blk_put (cs := #[.string (⟨#[]⟩ : ByteArray), .string (⟨#[]⟩ : ByteArray)]) ?_ 0 _ rfl; exact rK_ BK408.out) Tryd.underlying23 rfl (by kernel_rfl)) rfl ?_
  exact ⟨f1_, hS_ GE408.out⟩
 rw [if_pos c2] at H
 have c2b0 : ((a0.size : Int) == 32) = true := beq_iff_eq.mpr c2
 have c2b1 : ((a0.size : Int) != 32) = false := bne_eq_false_iff_eq.mpr c2
 clear c2
 obtain ⟨t409, A3, H⟩ := bN_ H
 obtain ⟨c4, H⟩ := iN_ H
 have c4b0 := eq_true c4
 have c4b1 := decide_eq_true c4
 try have c4b2 : (9223372036854775807 < t409.size + 1) = False := eq_false (Nat.not_lt.2 c4)
 obtain ⟨t410, A5, H⟩ := bN_ H
 obtain ⟨t411, A6, H⟩ := bN_ H
 obtain ⟨t412, A7, H⟩ := bN_ H
 obtain ⟨y415, hy415⟩ : ∃ y_ : List (List Int), y_ = (([] : List (List Int))) := ⟨_, rfl⟩
 first | replace H := yb_ hy415 H | rw [← hy415] at H
 have Ny415 := Aside0.mk hy415
 clear hy415
 have H' := Aside0.mk H
 clear H
 go_enter Tryd.func4, Tryd.ntmps4
 go_wp2_with (first | ((with_reducible refine gate_dst (N := 2) rfl ?_); refine box_event ?hg (N := 2) ?hd (cs := #[.string (⟨#[]⟩ : ByteArray), .string (⟨#[]⟩ : ByteArray)]) (t := 23) ?hr ?_; (case hd => rfl); (case hg => rfl); (case hr => first | (go_simp; done) | (go_simp; rfl)); intro gb408 hg w8 hbox hb; have n_ := b_ (below_step (hB_) hb) <| b_ (hbox) <| b_ (by rw [hg]; exact (below_size (hB_)) : w.heap.size ≤ gb408) <| c_ (by rw [hg]; exact (below_size (hB_)) : w.heap.size ≤ gb408); clear HB; obtain ⟨HB, BK408, GW408, GE408⟩ := n_; clear hb hbox hg) | ((with_reducible refine gate_callee (f := 7) rfl ?_); refine goesL_ (some 20) rfl rfl Tryd.func7 (by kernel_rfl) rfl #[.string a0] rfl aM_ ?_; (with_reducible refine (spec_DigestOf.calls k a0 t409 _ A3.out).mono ?_); rintro e w9 ⟨rfl, hb⟩; refine ⟨_, rfl, ?_⟩; have n_ := b_ (blk_below (g := gb408) (o := .cells #[.string (⟨#[]⟩ : ByteArray), .string (⟨#[]⟩ : ByteArray)] 23 (0, 0)) (rK_ BK408.out) hb) <| c_ (below_step (hS_ GE408.out) hb); clear BK408 HB; obtain ⟨BK408, HB⟩ := n_; (try clear hb)) | ((with_reducible refine gate_callee (f := 7) rfl ?_); refine goesL_ (some 23) rfl rfl Tryd.func7 (by kernel_rfl) rfl #[.string (t409 ++ (⟨#[114]⟩ : ByteArray))] rfl aM_ ?_; (with_reducible refine (spec_DigestOf.calls k (t409 ++ (⟨#[114]⟩ : ByteArray)) t410 _ A5.out).mono ?_); rintro e w10 ⟨rfl, hb⟩; refine ⟨_, rfl, ?_⟩; have n_ := b_ (blk_below (g := gb408) (o := .cells #[.string (⟨#[]⟩ : ByteArray), .string (⟨#[]⟩ : ByteArray)] 23 (0, 0)) (rK_ BK408.out) hb) <| c_ (below_step (hS_ GE408.out) hb); clear BK408 HB; obtain ⟨BK408, HB⟩ := n_; (try clear hb)) | ((with_reducible refine gate_callee (f := 7) rfl ?_); refine goesL_ (some 26) rfl rfl Tryd.func7 (by kernel_rfl) rfl #[.string (t409 ++ (⟨#[115]⟩ : ByteArray))] rfl aM_ ?_; (with_reducible refine (spec_DigestOf.calls k (t409 ++ (⟨#[115]⟩ : ByteArray)) t411 _ A6.out).mono ?_); rintro e w11 ⟨rfl, hb⟩; refine ⟨_, rfl, ?_⟩; have n_ := b_ (blk_below (g := gb408) (o := .cells #[.string (⟨#[]⟩ : ByteArray), .string (⟨#[]⟩ : ByteArray)] 23 (0, 0)) (rK_ BK408.out) hb) <| c_ (below_step (hS_ GE408.out) hb); clear BK408 HB; obtain ⟨BK408, HB⟩ := n_; (try clear hb)) | ((with_reducible refine gate_callee (f := 8) rfl ?_); refine goesL_ (some 28) rfl rfl Tryd.func8 (by kernel_rfl) rfl #[.string t410] rfl aM_ ?_; (with_reducible refine (spec_l13Matrix.calls k t410 t412 _ A7.out).mono ?_); rintro e w12 ⟨v413, rfl, ho0, hb⟩; refine ⟨_, rfl, ?_⟩; have n_ := b_ (Kd.S_lower ho0 (below_size (hS_ GE408.out))) <| b_ (blk_below (g := gb408) (o := .cells #[.string (⟨#[]⟩ : ByteArray), .string (⟨#[]⟩ : ByteArray)] 23 (0, 0)) (rK_ BK408.out) hb) <| c_ (below_step (hS_ GE408.out) hb); clear BK408 HB; obtain ⟨HO414, BK408, HB⟩ := n_; (try clear ho0)) | ((with_reducible refine gate_dst (N := 29) rfl ?_); refine Kd.S_lit (Kd.slice 3 (Kd.int .i64)) _ 31 ?hg (N := 29) ?hd (xs := ([] : List (List Int))) (inner := []) (ok := fun _ => True) (okp := fun _ => True) ?hr ?hp (fun _ hk => hk) trivial (Below.refl _ _) (Nat.le_refl _) (by simp) ?_; (case hd => rfl); (case hg => rfl); (case hr => first | (go_simp; done) | (go_simp; rfl)); (case hp => exact (Reps.none _ _)); intro v416 w13 ho14 hb hg_ hnew_; clear hg_ hnew_; (first | rw [← Ny415.out] at ho14 | (simp only [Int.reduceToNat] at ho14; rw [← Ny415.out] at ho14)); have n_ := b_ (Kd.S_elder' (rS_ HO414.out) (Kd.S_base ho14) hb) <| b_ (Kd.S_lower (Kd.S_new' ho14 (Kd.S_lt (rS_ HO414.out))) (below_size (hS_ GE408.out))) <| b_ (blk_below (g := gb408) (o := .cells #[.string (⟨#[]⟩ : ByteArray), .string (⟨#[]⟩ : ByteArray)] 23 (0, 0)) (rK_ BK408.out) hb) <| c_ (below_step (hS_ GE408.out) hb); clear HO414 BK408 HB; obtain ⟨HO414, HO417, BK408, HB⟩ := n_; clear hb ho14))
 go_loopg [8, 10, 11] k (fun kq v8 v10 v11 w' => ∃ (x8_1 : List (List Int)) (x10_1 : ByteArray) (x11_1 : Int), v10 = .string x10_1 ∧ v11 = .int .i64 x11_1 ∧ Aside0 (spec_PairOf.l0 kq t409 t410 t411 t412 x8_1 (⟨#[]⟩ : ByteArray) x10_1 x11_1 = some (r1, r2, r3)) ∧ Aside0 (kq ≤ k) ∧ Aside0 (Kd.S (Kd.slice 3 (Kd.int .i64)) 31 w' w.heap.size (fun k_ => some k_ ≠ (v8 : Value).ownBlock) v413 t412) ∧ Aside0 (Kd.S (Kd.slice 3 (Kd.int .i64)) 31 w' w.heap.size (fun k_ => some k_ ≠ (v413 : Value).ownBlock) v8 x8_1) ∧ Aside0 (w'.heap[gb408]? = some (.cells #[.string (⟨#[]⟩ : ByteArray), .string (⟨#[]⟩ : ByteArray)] 23 (0, 0))) ∧ Aside0 (Below w.heap.size w w'))
 case atStart => exact ⟨(y415), ((⟨#[]⟩ : ByteArray)), (0), f0_, f0_, H', ⟨Nat.le_refl _⟩, ⟨by refine kS_ ?_; exact Kd.S_mono HO414.out (fun _ hk => hk.2)⟩, ⟨by refine kS_ ?_; exact Kd.S_mono HO417.out (fun _ hk => hk.2)⟩, ⟨by refine kK_ ?_; exact BK408.out⟩, ⟨hS_ GE408.out⟩⟩
 case round =>
  clear H'
  obtain ⟨x8_1, x10_1, x11_1, rfl, rfl, HA, HK1, HO_7, HO_8, BK408, HB⟩ := hrel
  cases gk with
  | zero => exact absurd HA.out (by simp [spec_PairOf.l0])
  | succ k1 =>
   have H := HA.out
   clear HA
   simp only [spec_PairOf.l0] at H
   by_cases c15 : x11_1 < 2
   ·rw [if_pos c15] at H
    have c15b0 := decide_eq_true c15
    clear c15
    obtain ⟨t418, A16, H⟩ := bN_ H
    obtain ⟨t421, A17, H⟩ := bN_ H
    obtain ⟨c18, H⟩ := iN_ H
    have LMc18 := Aside0.mk c18
    clear c18
    obtain ⟨y424, hy424⟩ : ∃ y_ : List (List Int), y_ = (x8_1 ++ [t421]) := ⟨_, rfl⟩
    first | replace H := yb_ hy424 H | rw [← hy424] at H
    have Ny424 := Aside0.mk hy424
    clear hy424
    obtain ⟨t427, A19, H⟩ := bN_ H
    obtain ⟨c20, H⟩ := iN_ H
    have c20b0 := eq_true c20
    have c20b1 := decide_eq_true c20
    try have c20b2 : (9223372036854775807 < x10_1.size + t427.size) = False := eq_false (Nat.not_lt.2 c20)
    have H' := Aside0.mk H
    clear H
    go_wp2_with (first | ((with_reducible refine gate_callee (f := 10) rfl ?_); refine goesL_ (some 36) rfl rfl Tryd.func10 (by kernel_rfl) rfl #[.string t411, .int .i64 x11_1] rfl aM_ ?_; (with_reducible refine (spec_Small.calls k1 t411 x11_1 t418 _ A16.out).mono ?_); rintro e w21 ⟨v419, rfl, ho0, hb⟩; refine ⟨_, rfl, ?_⟩; have n_ := b_ (Kd.S_elder' (rS_ HO_7.out) (Kd.R_base ho0) hb) <| b_ (Kd.S_elder' (rS_ HO_8.out) (Kd.R_base ho0) hb) <| b_ (Kd.R_lower ho0 (below_size (hS_ GE408.out))) <| b_ (blk_below (g := gb408) (o := .cells #[.string (⟨#[]⟩ : ByteArray), .string (⟨#[]⟩ : ByteArray)] 23 (0, 0)) (rK_ BK408.out) hb) <| c_ (below_step (hS_ GE408.out) hb); clear HO_7 HO_8 BK408 HB; obtain ⟨HO_7, HO_8, HO420, BK408, HB⟩ := n_; obtain ⟨Ao22, co22, eo22⟩ := Kd.R_slice HO420.out; subst eo22) | ((with_reducible refine gate_callee (f := 9) rfl ?_); refine goesL_ (some 37) rfl rfl Tryd.func9 (by kernel_rfl) rfl #[.slice Ao22 t418.length co22] rfl aM_ ?_; (with_reducible refine (spec_Ntt.calls k1 _ _ t418 t421 _ ?side1 ?side2 A17.out).mono ?_); (case side1 => exact cR_ (Kd.R_reads' HO420.out).2.2); (case side2 => exact (Kd.R_reads' HO420.out).2.1); rintro e w23 ⟨v422, rfl, ho0, hb⟩; refine ⟨_, rfl, ?_⟩; have n_ := b_ (Kd.S_elder' (rS_ HO_7.out) (Kd.R_base ho0) hb) <| b_ (Kd.S_elder' (rS_ HO_8.out) (Kd.R_base ho0) hb) <| b_ (Kd.R_elder' (rR_ HO420.out) (Kd.R_base ho0) hb) <| b_ (Kd.R_lower (Kd.R_new' ho0 (Kd.R_lt (rR_ HO420.out))) (below_size (hS_ GE408.out))) <| b_ (blk_below (g := gb408) (o := .cells #[.string (⟨#[]⟩ : ByteArray), .string (⟨#[]⟩ : ByteArray)] 23 (0, 0)) (rK_ BK408.out) hb) <| c_ (below_step (hS_ GE408.out) hb); clear HO_7 HO_8 HO420 BK408 HB; obtain ⟨HO_7, HO_8, HO420, HO423, BK408, HB⟩ := n_; obtain ⟨Ao25, co25, eo25⟩ := Kd.R_slice HO423.out; subst eo25) | ((with_reducible refine gate_builtin (b := .append) (xs := #[.tmp 38, .tmp 40]) rfl ?_); at_builtin; refine Kd.S_append (Kd.slice 3 (Kd.int .i64)) (w0 := w) w.heap.size rfl (.tmp 38) (.tmp 40) 29 31 (.slice none 0 0) 24 rfl Tryd.underlying29 info31 rfl (by decide) (by omega) u8 x8_1 t421 [.slice Ao25 t421.length co25] (fun k_ => some k_ ≠ (v413 : Value).ownBlock ∧ some k_ ≠ (.slice Ao22 t418.length co22 : Value).ownBlock) (fun k_ => some k_ = (.slice Ao25 t421.length co25 : Value).ownBlock) rfl rfl ?aP (fun k_ hk_ => ((Kd.R_mono (ok' := fun k_ => ((fun k_ => some k_ ≠ (v413 : Value).ownBlock ∧ some k_ ≠ (.slice Ao22 t418.length co22 : Value).ownBlock)) k_ ∧ some k_ ≠ (u8 : Value).ownBlock) (Kd.R_apart' (Kd.R_apart' (HO423.out) (Kd.S_typed HO_7.out) (by decide)) (Kd.S_typed HO_8.out) (by decide)) (fun k_ hk => ⟨⟨hk.1.2, hk.1.1.2⟩, hk.2⟩))).1 k_ hk_.symm) ?aF ?aO ?aB ?aS ?aL ?_; (case aP => exact Kd.M_row (Kd.R_mono (Kd.R_tight rfl (Kd.R_mono (ok' := fun k_ => ((fun k_ => some k_ ≠ (v413 : Value).ownBlock ∧ some k_ ≠ (.slice Ao22 t418.length co22 : Value).ownBlock)) k_ ∧ some k_ ≠ (u8 : Value).ownBlock) (Kd.R_apart' (Kd.R_apart' (HO423.out) (Kd.S_typed HO_7.out) (by decide)) (Kd.S_typed HO_8.out) (by decide)) (fun k_ hk => ⟨⟨hk.1.2, hk.1.1.2⟩, hk.2⟩))) (fun _ h_ => h_))); (case aB => exact (hS_ GE408.out)); (case aF => exact (fun k_ hk => ⟨Kd.fresh' (Kd.S_lt (rS_ HO_7.out)) k_ hk, Kd.fresh' (Kd.R_lt (rR_ HO420.out)) k_ hk⟩)); (case aO => exact (by refine kS_ ?_; exact Kd.S_mono HO_8.out (fun k_ hk => ⟨⟨hk.1.1, hk.1.2⟩, fun e_ => hk.2 e_⟩))); (case aS => exact (below_size (hS_ GE408.out))); (case aL => have := LMc18.out; omega); intro v425 w24 ho hb hg hat; rw [← Ny424.out] at ho; have n_ := b_ (Kd.S_after (ok := (fun k_ => some k_ ≠ (.slice Ao22 t418.length co22 : Value).ownBlock ∧ some k_ ≠ (.slice Ao25 t421.length co25 : Value).ownBlock)) (by refine kS_ ?_; exact Kd.S_mono HO_7.out (fun _ hk => ⟨⟨hk.1.2, hk.2⟩, hk.1.1⟩)) hg hat) <| b_ (blk_grown (g := gb408) (o := .cells #[.string (⟨#[]⟩ : ByteArray), .string (⟨#[]⟩ : ByteArray)] 23 (0, 0)) (rK_ BK408.out) hg (Kd.S_ne HO_8.out BK408.out (by decide))) <| b_ (Kd.R_over' (rR_ HO420.out) (Kd.S_typed (rS_ HO_8.out)) (by decide) hg) <| b_ (Kd.R_over' (rR_ HO423.out) (Kd.S_typed (rS_ HO_8.out)) (by decide) hg) <| b_ (hb) <| c_ (ho); clear HO_8 HO423 HO_7 BK408 HO420 HB; obtain ⟨HO_7, BK408, HO420, HO423, HB, HO426⟩ := n_; clear ho hb hg hat) | ((with_reducible refine gate_callee (f := 11) rfl ?_); refine goesL_ (some 44) rfl rfl Tryd.func11 (by kernel_rfl) rfl #[.slice Ao25 t421.length co25] rfl aM_ ?_; (with_reducible refine (spec_PolyBytes.calls k1 _ _ t421 t427 _ ?side1 ?side2 A19.out).mono ?_); (case side1 => exact cR_ (Kd.R_reads' HO423.out).2.2); (case side2 => exact (Kd.R_reads' HO423.out).2.1); rintro e w26 ⟨rfl, hb⟩; refine ⟨_, rfl, ?_⟩; have n_ := b_ (Kd.S_below (rS_ HO_7.out) hb) <| b_ (Kd.R_below (rR_ HO420.out) hb) <| b_ (Kd.S_below (rS_ HO426.out) hb) <| b_ (blk_below (g := gb408) (o := .cells #[.string (⟨#[]⟩ : ByteArray), .string (⟨#[]⟩ : ByteArray)] 23 (0, 0)) (rK_ BK408.out) hb) <| c_ (below_step (hS_ GE408.out) hb); clear HO_7 HO420 HO426 BK408 HB; obtain ⟨HO_7, HO420, HO426, BK408, HB⟩ := n_; (try clear hb)))
    go_roundg k1
    case measure => have := HK1.out; omega
    case rel => exact ⟨(y424), (x10_1 ++ t427), (wrap64 (x11_1 + 1)), f0_, f0_, H', ⟨by have := HK1.out; omega⟩, ⟨by refine kS_ ?_; exact Kd.S_mono HO_7.out (fun _ hk => hk.2)⟩, ⟨by refine kS_ ?_; exact Kd.S_mono HO426.out (fun _ hk => hk.1)⟩, ⟨by refine kK_ ?_; exact BK408.out⟩, ⟨hS_ GE408.out⟩⟩
   rw [if_neg c15] at H
   have c15b0 := decide_eq_false c15
   clear c15
   have H' := Aside0.mk H
   clear H
   go_wp2
   go_loopg [9, 13] k1 (fun kq v9 v13 w' => ∃ (x9_2 : ByteArray) (x13_2 : Int), v9 = .string x9_2 ∧ v13 = .int .i64 x13_2 ∧ Aside0 (spec_PairOf.l1 kq t409 t410 t411 t412 x8_1 x9_2 x10_1 x13_2 = some (r1, r2, r3)) ∧ Aside0 (kq ≤ k1) ∧ Aside0 (Kd.S (Kd.slice 3 (Kd.int .i64)) 31 w' w.heap.size (fun k_ => some k_ ≠ (u8 : Value).ownBlock) v413 t412) ∧ Aside0 (Kd.S (Kd.slice 3 (Kd.int .i64)) 31 w' w.heap.size (fun k_ => some k_ ≠ (v413 : Value).ownBlock) u8 x8_1) ∧ Aside0 (w'.heap[gb408]? = some (.cells #[.string (⟨#[]⟩ : ByteArray), .string (⟨#[]⟩ : ByteArray)] 23 (0, 0))) ∧ Aside0 (Below w.heap.size w w'))
   case atStart => exact ⟨((⟨#[]⟩ : ByteArray)), (0), f0_, f0_, H', ⟨Nat.le_refl _⟩, ⟨rS_ HO_7.out⟩, ⟨rS_ HO_8.out⟩, ⟨by refine kK_ ?_; exact BK408.out⟩, ⟨hS_ GE408.out⟩⟩
   case round =>
    clear H'
    obtain ⟨x9_2, x13_2, rfl, rfl, HA, HK2, HO_7, HO_8, BK408, HB⟩ := hrel
    cases gk with
    | zero => exact absurd HA.out (by simp [spec_PairOf.l1])
    | succ k2 =>
     have H := HA.out
     clear HA
     simp only [spec_PairOf.l1] at H
     by_cases c27 : x13_2 < 2
     rotate_left
     ·rw [if_neg c27] at H
      have c27b0 := decide_eq_false c27
      clear c27
      obtain ⟨c50, H⟩ := iN_ H
      have c50b0 := eq_true c50
      have c50b1 := decide_eq_true c50
      try have c50b2 : (9223372036854775807 < x9_2.size + t410.size) = False := eq_false (Nat.not_lt.2 c50)
      obtain ⟨c51, H⟩ := iN_ H
      have c51b0 := eq_true c51
      have c51b1 := decide_eq_true c51
      try have c51b2 : (9223372036854775807 < x10_1.size + (x9_2 ++ t410).size) = False := eq_false (Nat.not_lt.2 c51)
      try (have c51b9 : (9223372036854775807 < x10_1.size + (x9_2 ++ t410).size) = False := c51b2; simp only [ByteArray.size_append] at c51b9)
      obtain ⟨t428, A52, H⟩ := bN_ H
      obtain ⟨c53, H⟩ := iN_ H
      have c53b0 := eq_true c53
      have c53b1 := decide_eq_true c53
      try have c53b2 : (9223372036854775807 < (x10_1 ++ (x9_2 ++ t410)).size + t428.size) = False := eq_false (Nat.not_lt.2 c53)
      try (have c53b9 : (9223372036854775807 < (x10_1 ++ (x9_2 ++ t410)).size + t428.size) = False := c53b2; simp only [ByteArray.size_append] at c53b9)
      obtain ⟨c54, H⟩ := iN_ H
      have c54b0 := eq_true c54
      have c54b1 := decide_eq_true c54
      try have c54b2 : (9223372036854775807 < t409.size + 1) = False := eq_false (Nat.not_lt.2 c54)
      obtain ⟨t429, A55, H⟩ := bN_ H
      obtain ⟨c56, H⟩ := iN_ H
      have c56b0 := eq_true c56
      have c56b1 := decide_eq_true c56
      try have c56b2 : (9223372036854775807 < ((x10_1 ++ (x9_2 ++ t410)) ++ t428).size + t429.size) = False := eq_false (Nat.not_lt.2 c56)
      try (have c56b9 : (9223372036854775807 < ((x10_1 ++ (x9_2 ++ t410)) ++ t428).size + t429.size) = False := c56b2; simp only [ByteArray.size_append] at c56b9)
      simp only [Option.some.injEq, Prod.mk.injEq] at H
      obtain ⟨rfl, rfl, rfl⟩ := H
      go_wp2_with (first | ((with_reducible refine gate_callee (f := 7) rfl ?_); refine goesL_ (some 77) rfl rfl Tryd.func7 (by kernel_rfl) rfl #[.string (x9_2 ++ t410)] rfl aM_ ?_; (with_reducible refine (spec_DigestOf.calls k2 (x9_2 ++ t410) t428 _ A52.out).mono ?_); rintro e w57 ⟨rfl, hb⟩; refine ⟨_, rfl, ?_⟩; have n_ := b_ (Kd.S_below (rS_ HO_7.out) hb) <| b_ (Kd.S_below (rS_ HO_8.out) hb) <| b_ (blk_below (g := gb408) (o := .cells #[.string (⟨#[]⟩ : ByteArray), .string (⟨#[]⟩ : ByteArray)] 23 (0, 0)) (rK_ BK408.out) hb) <| c_ (below_step (hS_ GE408.out) hb); clear HO_7 HO_8 BK408 HB; obtain ⟨HO_7, HO_8, BK408, HB⟩ := n_; (try clear hb)) | ((with_reducible refine gate_callee (f := 7) rfl ?_); refine goesL_ (some 81) rfl rfl Tryd.func7 (by kernel_rfl) rfl #[.string (t409 ++ (⟨#[122]⟩ : ByteArray))] rfl aM_ ?_; (with_reducible refine (spec_DigestOf.calls k2 (t409 ++ (⟨#[122]⟩ : ByteArray)) t429 _ A55.out).mono ?_); rintro e w58 ⟨rfl, hb⟩; refine ⟨_, rfl, ?_⟩; have n_ := b_ (Kd.S_below (rS_ HO_7.out) hb) <| b_ (Kd.S_below (rS_ HO_8.out) hb) <| b_ (blk_below (g := gb408) (o := .cells #[.string (⟨#[]⟩ : ByteArray), .string (⟨#[]⟩ : ByteArray)] 23 (0, 0)) (rK_ BK408.out) hb) <| c_ (below_step (hS_ GE408.out) hb); clear HO_7 HO_8 BK408 HB; obtain ⟨HO_7, HO_8, BK408, HB⟩ := n_; have hcz59_0 : w58.cell? ⟨gb408, 0, none⟩ = some (.string (⟨#[]⟩ : ByteArray)) := (blk_cell BK408.out 0).trans rfl; have hcz59_1 : w58.cell? ⟨gb408, 1, none⟩ = some (.string (⟨#[]⟩ : ByteArray)) := (blk_cell BK408.out 1).trans rfl; have hfz59_0 := blk_frozen BK408.out 0; have hfz59_1 := blk_frozen BK408.out 1))
      refine bodyPost_ret (results_ct rfl _ _ gb408 23 #[.string (x9_2 ++ t410), .string (((x10_1 ++ (x9_2 ++ t410)) ++ t428) ++ t429)] (0, 0) _ rfl (by refine kK_ ?_; refine blk_put (cs := #[.string (x9_2 ++ t410), .string (⟨#[]⟩ : ByteArray)]) ?_ 1 _ rfl; refine kK_ ?_; refine blk_put (cs := #[.string (⟨#[]⟩ : ByteArray), .string (⟨#[]⟩ : ByteArray)]) ?_ 0 _ rfl; exact rK_ BK408.out) Tryd.underlying23 rfl (by kernel_rfl)) rfl ?_
      exact ⟨f1_, hS_ GE408.out⟩
     rw [if_pos c27] at H
     have c27b0 := decide_eq_true c27
     clear c27
     obtain ⟨ji28, hji28⟩ : ∃ j_ : Int, (wrap64 (x13_2 * 2)) = j_ := ⟨_, rfl⟩
     first | rw [hji28] at H | simp only [hji28] at H
     have hji28w : (IntKind.i64.wrap (x13_2 * 2)) = ji28 := (i64_w _).trans hji28
     obtain ⟨c29, H⟩ := iN_ H
     have c29b0 := eq_true c29
     have c29b1 := decide_eq_true c29
     clear c29
     obtain ⟨c30, H⟩ := iN_ H
     have c30b0 := eq_true c30
     have c30b1 := decide_eq_true c30
     obtain ⟨c31, H⟩ := iN_ H
     have c31b0 := eq_true c31
     have c31b1 := decide_eq_true c31
     obtain ⟨y430, hy430⟩ : ∃ y_ : List (List Int), y_ = ((t412.take ((wrap64 ((ji28) + 2)) : Int).toNat).drop ((ji28) : Int).toNat) := ⟨_, rfl⟩
     first | replace H := yb_ hy430 H | rw [← hy430] at H
     have Ny430 := Aside0.mk hy430
     clear hy430
     obtain ⟨t434, A32, H⟩ := bN_ H
     obtain ⟨t437, A33, H⟩ := bN_ H
     obtain ⟨t440, A34, H⟩ := bN_ H
     obtain ⟨t443, A35, H⟩ := bN_ H
     obtain ⟨t446, A36, H⟩ := bN_ H
     obtain ⟨c37, H⟩ := iN_ H
     have c37b0 := eq_true c37
     have c37b1 := decide_eq_true c37
     try have c37b2 : (9223372036854775807 < x9_2.size + t446.size) = False := eq_false (Nat.not_lt.2 c37)
     have H' := Aside0.mk H
     clear H
     obtain ⟨Ao39, co39, eo39⟩ := Kd.S_slice HO_7.out
     subst eo39
     have q38 : ((wrap64 ((ji28) + 2)) : Int) ≤ ((t412.length : Int) : Int) := oD_
     obtain ⟨i038, hi038, _, hsz38, _⟩ := info_parts info31
     have hroom38 : t412.length ≤ co39 := (Kd.S_reads' HO_7.out).2.1
     have hC38 : Kd.C (Kd.slice 3 (Kd.int .i64)) _ Ao39 t412.length t412 := (Kd.S_reads' HO_7.out).2.2
     have ql38 : ((ji28) : Int) ≤ ((wrap64 ((ji28) + 2)) : Int) := oD_
     have q038 : (0 : Int) ≤ ((ji28) : Int) := oD_
     have hcut38 := cut_mid (P := Tryd.prog) 29 31 .i64 .i64 Tryd.underlying29 hi038 1 hsz38 Ao39 t412.length co39 (ji28) (wrap64 ((ji28) + 2)) q038 ql38 q38 hroom38
     have hr38 := Kd.C_mid (lo := ((ji28) : Int).toNat) (hi := ((wrap64 ((ji28) + 2)) : Int).toNat) (c := co39) hC38 (by omega) (by omega) hroom38
     obtain ⟨A38, hA38⟩ : ∃ A1, A1 = (if co39 = ((ji28) : Int).toNat then Ao39 else (Ao39 : Option Addr).map (·.add (((ji28) : Int).toNat * 1))) := ⟨_, rfl⟩
     obtain ⟨c38, hc38⟩ : ∃ c1, c1 = co39 - ((ji28) : Int).toNat := ⟨_, rfl⟩
     have hy38 : y430.length = ((wrap64 ((ji28) + 2)) : Int).toNat - ((ji28) : Int).toNat := (by rw [Ny430.out, List.length_drop, List.length_take] <;> omega)
     rw [show ((t412).take ((wrap64 ((ji28) + 2)) : Int).toNat).drop ((ji28) : Int).toNat = y430 from Ny430.out.symm] at hr38
     replace hr38 : Kd.C (Kd.slice 3 (Kd.int .i64)) _ A38 y430.length y430 := (by rw [hA38]; exact hr38)
     rw [← hy38, ← hA38, ← hc38] at hcut38
     have HR433 := Aside0.mk hr38
     have HC433 := Aside0.mk (show y430.length ≤ c38 from by rw [hy38, hc38]; exact Nat.sub_le_sub_right (Nat.le_trans (by omega) hroom38) _)
     clear hr38 hC38 hroom38 hi038 hsz38 hc38
     have KY38 := Aside0.mk hy38
     have KA38 := Aside0.mk hA38
     clear hy38 hA38
     have KL38 := Aside0.mk (show ((wrap64 ((ji28) + 2)) : Int).toNat ≤ t412.length from by omega)
     have KM38 := Aside0.mk (show ((ji28) : Int).toNat ≤ ((wrap64 ((ji28) + 2)) : Int).toNat from by omega)
     replace q38 := eq_true q38
     obtain ⟨Ao40, co40, eo40⟩ := Kd.S_slice HO_8.out
     subst eo40
     go_wp2_with (first | ((with_reducible refine gate_callee (f := 13) rfl ?_); refine goesL_ (some 58) rfl rfl Tryd.func13 (by kernel_rfl) rfl #[.slice A38 y430.length c38, .slice Ao40 x8_1.length co40] rfl aM_ ?_; (with_reducible refine (spec_l13Sum.calls k2 _ _ y430 _ _ x8_1 t434 _ ?side1 ?side2 ?side3 ?side4 A32.out).mono ?_); (case side1 => repeat (first | exact (by repeat (first | (with_reducible exact HR433.out) | (with_reducible refine Kd.C_alloc ?_ _) | (with_reducible refine Kd.C_drewN ?_ _) | (with_reducible refine Kd.C_drew ?_) | exact HR433.out)) | (with_reducible refine Kd.C_alloc ?_ _) | (with_reducible refine Kd.C_drewN ?_ _) | (with_reducible refine Kd.C_drew ?_))); (case side2 => exact HC433.out); (case side3 => exact cR_ (Kd.S_reads' HO_8.out).2.2); (case side4 => exact (Kd.S_reads' HO_8.out).2.1); rintro e w41 ⟨v435, rfl, ho0, hb⟩; refine ⟨_, rfl, ?_⟩; have n_ := b_ (Kd.S_elder' (rS_ HO_7.out) (Kd.R_base ho0) hb) <| b_ (Kd.S_elder' (rS_ HO_8.out) (Kd.R_base ho0) hb) <| b_ (Kd.R_lower ho0 (below_size (hS_ GE408.out))) <| b_ (blk_below (g := gb408) (o := .cells #[.string (⟨#[]⟩ : ByteArray), .string (⟨#[]⟩ : ByteArray)] 23 (0, 0)) (rK_ BK408.out) hb) <| b_ (Kd.C_below (by repeat (first | (with_reducible exact HR433.out) | (with_reducible refine Kd.C_alloc ?_ _) | (with_reducible refine Kd.C_drewN ?_ _) | (with_reducible refine Kd.C_drew ?_) | exact HR433.out)) hb) <| c_ (below_step (hS_ GE408.out) hb); clear HO_7 HO_8 BK408 HR433 HB; obtain ⟨HO_7, HO_8, HO436, BK408, HR433, HB⟩ := n_; (try clear ho0)) | ((with_reducible refine gate_callee (f := 10) rfl ?_); refine goesL_ (some 62) rfl rfl Tryd.func10 (by kernel_rfl) rfl #[.string t411, .int .i64 (wrap64 (2 + x13_2))] rfl aM_ ?_; (with_reducible refine (spec_Small.calls k2 t411 (wrap64 (2 + x13_2)) t437 _ A33.out).mono ?_); rintro e w42 ⟨v438, rfl, ho0, hb⟩; refine ⟨_, rfl, ?_⟩; have n_ := b_ (Kd.S_elder' (rS_ HO_7.out) (Kd.R_base ho0) hb) <| b_ (Kd.S_elder' (rS_ HO_8.out) (Kd.R_base ho0) hb) <| b_ (Kd.R_elder' (rR_ HO436.out) (Kd.R_base ho0) hb) <| b_ (Kd.R_lower (Kd.R_new' ho0 (Kd.R_lt (rR_ HO436.out))) (below_size (hS_ GE408.out))) <| b_ (blk_below (g := gb408) (o := .cells #[.string (⟨#[]⟩ : ByteArray), .string (⟨#[]⟩ : ByteArray)] 23 (0, 0)) (rK_ BK408.out) hb) <| b_ (Kd.C_below (by repeat (first | (with_reducible exact HR433.out) | (with_reducible refine Kd.C_alloc ?_ _) | (with_reducible refine Kd.C_drewN ?_ _) | (with_reducible refine Kd.C_drew ?_) | exact HR433.out)) hb) <| c_ (below_step (hS_ GE408.out) hb); clear HO_7 HO_8 HO436 BK408 HR433 HB; obtain ⟨HO_7, HO_8, HO436, HO439, BK408, HR433, HB⟩ := n_; obtain ⟨Ao43, co43, eo43⟩ := Kd.R_slice HO439.out; subst eo43) | ((with_reducible refine gate_callee (f := 9) rfl ?_); refine goesL_ (some 63) rfl rfl Tryd.func9 (by kernel_rfl) rfl #[.slice Ao43 t437.length co43] rfl aM_ ?_; (with_reducible refine (spec_Ntt.calls k2 _ _ t437 t440 _ ?side1 ?side2 A34.out).mono ?_); (case side1 => exact cR_ (Kd.R_reads' HO439.out).2.2); (case side2 => exact (Kd.R_reads' HO439.out).2.1); rintro e w44 ⟨v441, rfl, ho0, hb⟩; refine ⟨_, rfl, ?_⟩; have n_ := b_ (Kd.S_elder' (rS_ HO_7.out) (Kd.R_base ho0) hb) <| b_ (Kd.S_elder' (rS_ HO_8.out) (Kd.R_base ho0) hb) <| b_ (Kd.R_elder' (rR_ HO436.out) (Kd.R_base ho0) hb) <| b_ (Kd.R_elder' (rR_ HO439.out) (Kd.R_base ho0) hb) <| b_ (Kd.R_lower (Kd.R_new' (Kd.R_new' ho0 (Kd.R_lt (rR_ HO436.out))) (Kd.R_lt (rR_ HO439.out))) (below_size (hS_ GE408.out))) <| b_ (blk_below (g := gb408) (o := .cells #[.string (⟨#[]⟩ : ByteArray), .string (⟨#[]⟩ : ByteArray)] 23 (0, 0)) (rK_ BK408.out) hb) <| b_ (Kd.C_below (by repeat (first | (with_reducible exact HR433.out) | (with_reducible refine Kd.C_alloc ?_ _) | (with_reducible refine Kd.C_drewN ?_ _) | (with_reducible refine Kd.C_drew ?_) | exact HR433.out)) hb) <| c_ (below_step (hS_ GE408.out) hb); clear HO_7 HO_8 HO436 HO439 BK408 HR433 HB; obtain ⟨HO_7, HO_8, HO436, HO439, HO442, BK408, HR433, HB⟩ := n_; obtain ⟨Ao45, co45, eo45⟩ := Kd.R_slice HO436.out; subst eo45; obtain ⟨Ao46, co46, eo46⟩ := Kd.R_slice HO442.out; subst eo46) | ((with_reducible refine gate_callee (f := 12) rfl ?_); refine goesL_ (some 64) rfl rfl Tryd.func12 (by kernel_rfl) rfl #[.slice Ao45 t434.length co45, .slice Ao46 t440.length co46] rfl aM_ ?_; (with_reducible refine (spec_PolyAdd.calls k2 _ _ t434 _ _ t440 t443 _ ?side1 ?side2 ?side3 ?side4 A35.out).mono ?_); (case side1 => exact cR_ (Kd.R_reads' HO436.out).2.2); (case side2 => exact (Kd.R_reads' HO436.out).2.1); (case side3 => exact cR_ (Kd.R_reads' HO442.out).2.2); (case side4 => exact (Kd.R_reads' HO442.out).2.1); rintro e w47 ⟨v444, rfl, ho0, hb⟩; refine ⟨_, rfl, ?_⟩; have n_ := b_ (Kd.S_elder' (rS_ HO_7.out) (Kd.R_base ho0) hb) <| b_ (Kd.S_elder' (rS_ HO_8.out) (Kd.R_base ho0) hb) <| b_ (Kd.R_elder' (rR_ HO436.out) (Kd.R_base ho0) hb) <| b_ (Kd.R_elder' (rR_ HO439.out) (Kd.R_base ho0) hb) <| b_ (Kd.R_elder' (rR_ HO442.out) (Kd.R_base ho0) hb) <| b_ (Kd.R_lower (Kd.R_new' (Kd.R_new' (Kd.R_new' ho0 (Kd.R_lt (rR_ HO436.out))) (Kd.R_lt (rR_ HO439.out))) (Kd.R_lt (rR_ HO442.out))) (below_size (hS_ GE408.out))) <| b_ (blk_below (g := gb408) (o := .cells #[.string (⟨#[]⟩ : ByteArray), .string (⟨#[]⟩ : ByteArray)] 23 (0, 0)) (rK_ BK408.out) hb) <| b_ (Kd.C_below (by repeat (first | (with_reducible exact HR433.out) | (with_reducible refine Kd.C_alloc ?_ _) | (with_reducible refine Kd.C_drewN ?_ _) | (with_reducible refine Kd.C_drew ?_) | exact HR433.out)) hb) <| c_ (below_step (hS_ GE408.out) hb); clear HO_7 HO_8 HO436 HO439 HO442 BK408 HR433 HB; obtain ⟨HO_7, HO_8, HO436, HO439, HO442, HO445, BK408, HR433, HB⟩ := n_; obtain ⟨Ao48, co48, eo48⟩ := Kd.R_slice HO445.out; subst eo48) | ((with_reducible refine gate_callee (f := 11) rfl ?_); refine goesL_ (some 67) rfl rfl Tryd.func11 (by kernel_rfl) rfl #[.slice Ao48 t443.length co48] rfl aM_ ?_; (with_reducible refine (spec_PolyBytes.calls k2 _ _ t443 t446 _ ?side1 ?side2 A36.out).mono ?_); (case side1 => exact cR_ (Kd.R_reads' HO445.out).2.2); (case side2 => exact (Kd.R_reads' HO445.out).2.1); rintro e w49 ⟨rfl, hb⟩; refine ⟨_, rfl, ?_⟩; have n_ := b_ (Kd.S_below (rS_ HO_7.out) hb) <| b_ (Kd.S_below (rS_ HO_8.out) hb) <| b_ (Kd.R_below (rR_ HO436.out) hb) <| b_ (Kd.R_below (rR_ HO439.out) hb) <| b_ (Kd.R_below (rR_ HO442.out) hb) <| b_ (Kd.R_below (rR_ HO445.out) hb) <| b_ (blk_below (g := gb408) (o := .cells #[.string (⟨#[]⟩ : ByteArray), .string (⟨#[]⟩ : ByteArray)] 23 (0, 0)) (rK_ BK408.out) hb) <| b_ (Kd.C_below (by repeat (first | (with_reducible exact HR433.out) | (with_reducible refine Kd.C_alloc ?_ _) | (with_reducible refine Kd.C_drewN ?_ _) | (with_reducible refine Kd.C_drew ?_) | exact HR433.out)) hb) <| c_ (below_step (hS_ GE408.out) hb); clear HO_7 HO_8 HO436 HO439 HO442 HO445 BK408 HR433 HB; obtain ⟨HO_7, HO_8, HO436, HO439, HO442, HO445, BK408, HR433, HB⟩ := n_; (try clear hb)))
     go_roundg k2
     case measure => have := HK1.out; have := HK2.out; omega
     case rel => exact ⟨(x9_2 ++ t446), (wrap64 (x13_2 + 1)), f0_, f0_, H', ⟨by have := HK1.out; have := HK2.out; omega⟩, ⟨by refine kS_ ?_; exact Kd.S_mono HO_7.out (fun _ hk => hk.1.1.1.1)⟩, ⟨by refine kS_ ?_; exact Kd.S_mono HO_8.out (fun _ hk => hk.1.1.1.1)⟩, ⟨by refine kK_ ?_; exact BK408.out⟩, ⟨hS_ GE408.out⟩⟩

end Go.Proofs.YthdjmbbkenbeiaaDoor.P
