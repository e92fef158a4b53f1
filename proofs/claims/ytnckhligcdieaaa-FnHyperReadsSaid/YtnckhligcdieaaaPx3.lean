-- printed texts of this session, regrouped
import Derived.Test.YtnckhligcdieaaaMWA
import Derived.Test.YtnckhligcdieaaaMW7
import Derived.Test.YtnckhligcdieaaaMW8
import Derived.Test.YtnckhligcdieaaaMW9
import Derived.Test.YtnckhligcdieaaaMW6
import Derived.Test.YtnckhligcdieaaaPx0
import Derived.Test.YtnckhligcdieaaaPx1
import Derived.Test.YtnckhligcdieaaaPx2
import Derived.Test.YtnckhligcdieaaaPx5
namespace Go.Proofs.Ytnckhligcdieaaa.P
open Go.RowKit Go.Proofs.YtnckhligcdieaaaW.PrintWords Go.Proofs.YtnckhligcdieaaaW.PrintLast Go.Proofs.YtnckhligcdieaaaW.PrintMore
attribute [local go_sem] max2_int min2_int max_two min_two max_three min_three max_four min_four   -- for this text's walks alone
set_option linter.unusedVariables false
set_option linter.unusedSimpArgs false
set_option maxHeartbeats 8000000
set_option maxRecDepth 100000

/-! ### spec_SigText: function 83 -/
mutual
def spec_SigText.l0 : Nat → ByteArray → Int → Int → List ByteArray → List ByteArray → Option (ByteArray × Bool)
 | 0, _, _, _, _, _ => none
 | k + 1, x4, x5, x503000, x503001, x503002 => if x5 < 10 then (if 0 ≤ x5 then (if x5 < (x503001.length : Int) then (if x4.size + (rdOf ByteArray.empty x503001 x5).size ≤ 9223372036854775807 then (spec_SigText.l0 k (x4 ++ (rdOf ByteArray.empty x503001 x5)) (wrap64 (x5 + 1)) x503000 x503001 x503002) else (none)) else (none)) else (none)) else (spec_SigText.l1 k x4 0 x503000 x503001 x503002)
def spec_SigText.l1 : Nat → ByteArray → Int → Int → List ByteArray → List ByteArray → Option (ByteArray × Bool)
 | 0, _, _, _, _, _ => none
 | k + 1, x4, x6, x503000, x503001, x503002 => if x6 < 2 then (if 0 ≤ x6 then (if x6 < (x503002.length : Int) then (if x4.size + (rdOf ByteArray.empty x503002 x6).size ≤ 9223372036854775807 then (spec_SigText.l1 k (x4 ++ (rdOf ByteArray.empty x503002 x6)) (wrap64 (x6 + 1)) x503000 x503001 x503002) else (none)) else (none)) else (none)) else (some (x4, true))
end
def spec_SigText.f (k : Nat) (a0_0 : Int) (l0_1 : List ByteArray) (l0_2 : List ByteArray) : Option (ByteArray × Bool) := (spec_SigOk.f k a0_0 l0_1 l0_2).bind fun t503 => (if t503 = true then ((spec_l06Byte.f a0_0).bind fun t504 => (spec_SigText.l0 k t504 0 a0_0 l0_1 l0_2)) else (some ((⟨#[]⟩ : ByteArray), false)))
theorem spec_SigText.mono_l : ∀ k, (∀ y0 y1 y2 y3 y4, LeO (spec_SigText.l0 k y0 y1 y2 y3 y4) (spec_SigText.l0 (k + 1) y0 y1 y2 y3 y4)) ∧ (∀ y0 y1 y2 y3 y4, LeO (spec_SigText.l1 k y0 y1 y2 y3 y4) (spec_SigText.l1 (k + 1) y0 y1 y2 y3 y4))
 | 0 => ⟨fun _ _ _ _ _ r h => by simp [spec_SigText.l0] at h, fun _ _ _ _ _ r h => by simp [spec_SigText.l1] at h⟩
 | k + 1 => by
  obtain ⟨ih0, ih1⟩ := spec_SigText.mono_l k
  refine ⟨?_, ?_⟩ <;> (intros; (first | unfold spec_SigText.l0 | unfold spec_SigText.l1); exact o3_ ih0 ih1 spec_SigOk.mono)
theorem spec_SigText.mono : ∀ a0 a1 a2 k, LeO (spec_SigText.f k a0 a1 a2) (spec_SigText.f (k + 1) a0 a1 a2) := by
 intro a0 a1 a2 k
 obtain ⟨ih0, ih1⟩ := spec_SigText.mono_l k
 unfold spec_SigText.f
 exact o3_ ih0 ih1 spec_SigOk.mono
theorem spec_SigText.calls (k : Nat) (a0_0 : Int) (A0_1 : Option Addr) (c0_1 : Nat) (l0_1 : List ByteArray) (A0_2 : Option Addr) (c0_2 : Nat) (l0_2 : List ByteArray) (r1 : ByteArray) (r2 : Bool) (w : World) (hr0_1 : Kd.C Kd.string w A0_1 l0_1.length l0_1) (hc0_1 : l0_1.length ≤ c0_1) (hr0_2 : Kd.C Kd.string w A0_2 l0_2.length l0_2) (hc0_2 : l0_2.length ≤ c0_2) (h : spec_SigText.f k a0_0 l0_1 l0_2 = some (r1, r2)) :
  Calls Try.prog 83 #[.agg #[.int .i64 a0_0, .slice A0_1 l0_1.length c0_1, .slice A0_2 l0_2.length c0_2]] w fun e w' => e = .returned (.tuple #[.string r1, .bool r2]) ∧ Below w.heap.size w w' := by
 have hu37 := Try.underlying37
 have HR0_1 := Aside0.mk hr0_1
 have HC0_1 := Aside0.mk hc0_1
 clear hr0_1 hc0_1
 have HR0_2 := Aside0.mk hr0_2
 have HC0_2 := Aside0.mk hc0_2
 clear hr0_2 hc0_2
 have HB := Aside0.mk (Below.refl w.heap.size w)
 delta spec_SigText.f at h
 have H := h
 clear h
 obtain ⟨t503, A2, H⟩ := bN_ H
 by_cases c3 : t503 = true
 ·subst c3
  replace H := iT_ H
  obtain ⟨t504, A4, H⟩ := bN_ H
  have H' := Aside0.mk H
  clear H
  go_enter Try.func83, Try.ntmps83
  go_wp2_with (first | ((with_reducible refine gate_dst (N := 1) rfl ?_); refine box_event ?hg (N := 1) ?hd (cs := #[.int .i64 a0_0, .slice A0_1 l0_1.length c0_1, .slice A0_2 l0_2.length c0_2]) (t := 37) ?hr ?_; (case hd => rfl); (case hg => rfl); (case hr => first | (go_simp; done) | (go_simp; rfl)); intro gb502 hg w5 hbox hb; have n_ := b_ (below_step (hB_) hb) <| b_ (hbox) <| b_ (by rw [hg]; exact (below_size (hB_)) : w.heap.size ≤ gb502) <| c_ (by rw [hg]; exact (below_size (hB_)) : w.heap.size ≤ gb502); clear HB; obtain ⟨HB, BK502, GW502, GE502⟩ := n_; clear hb hbox hg; have hcz6_0 : w5.cell? ⟨gb502, 0, none⟩ = some (.int .i64 a0_0) := (blk_cell BK502.out 0).trans rfl; have hcz6_1 : w5.cell? ⟨gb502, 1, none⟩ = some (.slice A0_1 l0_1.length c0_1) := (blk_cell BK502.out 1).trans rfl; have hcz6_2 : w5.cell? ⟨gb502, 2, none⟩ = some (.slice A0_2 l0_2.length c0_2) := (blk_cell BK502.out 2).trans rfl; have hfz6_0 := blk_frozen BK502.out 0; have hfz6_1 := blk_frozen BK502.out 1; have hfz6_2 := blk_frozen BK502.out 2) | ((with_reducible refine gate_callee (f := 49) rfl ?_); refine goesL_ (some 8) rfl rfl Try.func49 (by kernel_rfl) rfl #[.agg #[.int .i64 a0_0, .slice A0_1 l0_1.length c0_1, .slice A0_2 l0_2.length c0_2]] rfl aM_ ?_; (with_reducible refine (spec_SigOk.calls k a0_0 _ _ l0_1 _ _ l0_2 true _ ?side1 ?side2 ?side3 ?side4 A2.out).mono ?_); (case side1 => exact cR_ (Kd.C_below HR0_1.out HB.out)); (case side2 => exact HC0_1.out); (case side3 => exact cR_ (Kd.C_below HR0_2.out HB.out)); (case side4 => exact HC0_2.out); rintro e w7 ⟨rfl, hb⟩; refine ⟨_, rfl, ?_⟩; have n_ := b_ (blk_below (g := gb502) (o := .cells #[.int .i64 a0_0, .slice A0_1 l0_1.length c0_1, .slice A0_2 l0_2.length c0_2] 37 (0, 0)) (rK_ BK502.out) hb) <| c_ (below_step (hS_ GE502.out) hb); clear BK502 HB; obtain ⟨BK502, HB⟩ := n_; have hcz8_0 : w7.cell? ⟨gb502, 0, none⟩ = some (.int .i64 a0_0) := (blk_cell BK502.out 0).trans rfl; have hcz8_1 : w7.cell? ⟨gb502, 1, none⟩ = some (.slice A0_1 l0_1.length c0_1) := (blk_cell BK502.out 1).trans rfl; have hcz8_2 : w7.cell? ⟨gb502, 2, none⟩ = some (.slice A0_2 l0_2.length c0_2) := (blk_cell BK502.out 2).trans rfl; have hfz8_0 := blk_frozen BK502.out 0; have hfz8_1 := blk_frozen BK502.out 1; have hfz8_2 := blk_frozen BK502.out 2) | ((with_reducible refine gate_callee (f := 30) rfl ?_); refine goesL_ (some 12) rfl rfl Try.func30 (by kernel_rfl) rfl #[.int .i64 a0_0] rfl aM_ ?_; (with_reducible refine (spec_l06Byte.calls a0_0 t504 _ A4.out).mono ?_); rintro e w9 ⟨rfl, hb⟩; refine ⟨_, rfl, ?_⟩; have n_ := b_ (blk_below (g := gb502) (o := .cells #[.int .i64 a0_0, .slice A0_1 l0_1.length c0_1, .slice A0_2 l0_2.length c0_2] 37 (0, 0)) (rK_ BK502.out) hb) <| c_ (below_step (hS_ GE502.out) hb); clear BK502 HB; obtain ⟨BK502, HB⟩ := n_; (try clear hb)))
  go_loopg [4, 5] k (fun kq v4 v5 w' => ∃ (x4_1 : ByteArray) (x5_1 : Int), v4 = .string x4_1 ∧ v5 = .int .i64 x5_1 ∧ Aside0 (spec_SigText.l0 kq x4_1 x5_1 a0_0 l0_1 l0_2 = some (r1, r2)) ∧ Aside0 (kq ≤ k) ∧ Aside0 (w'.heap[gb502]? = some (.cells #[.int .i64 a0_0, (.slice A0_1 l0_1.length c0_1), (.slice A0_2 l0_2.length c0_2)] 37 (0, 0))) ∧ Aside0 (Below w.heap.size w w'))
  case atStart => exact ⟨(t504), (0), (by first | rfl | (simp; done) | (simp [*]; done)), (by first | rfl | (simp; done) | (simp [*]; done)), H', ⟨Nat.le_refl _⟩, ⟨by refine kK_ ?_; exact BK502.out⟩, ⟨hS_ GE502.out⟩⟩
  case round =>
   clear H'
   obtain ⟨x4_1, x5_1, rfl, rfl, HA, HK1, BK502, HB⟩ := hrel
   cases gk with
   | zero => exact absurd HA.out (by simp [spec_SigText.l0])
   | succ k1 =>
    have H := HA.out
    clear HA
    simp only [spec_SigText.l0] at H
    by_cases c10 : x5_1 < 10
    ·rw [if_pos c10] at H
     have c10b0 := decide_eq_true c10
     clear c10
     obtain ⟨c11b0, H⟩ := iD_ H
     obtain ⟨c12b0, H⟩ := iD_ H
     obtain ⟨c13, H⟩ := iN_ H
     have c13b0 := eq_true c13
     have c13b1 := decide_eq_true c13
     try have c13b2 : (9223372036854775807 < x4_1.size + (rdOf ByteArray.empty l0_1 x5_1).size) = False := eq_false (Nat.not_lt.2 c13)
     have H' := Aside0.mk H
     clear H
     have hcz14_0 : wr.cell? ⟨gb502, 0, none⟩ = some (.int .i64 a0_0) := (blk_cell BK502.out 0).trans rfl
     have hcz14_1 : wr.cell? ⟨gb502, 1, none⟩ = some (.slice A0_1 l0_1.length c0_1) := (blk_cell BK502.out 1).trans rfl
     have hcz14_2 : wr.cell? ⟨gb502, 2, none⟩ = some (.slice A0_2 l0_2.length c0_2) := (blk_cell BK502.out 2).trans rfl
     have hfz14_0 := blk_frozen BK502.out 0
     have hfz14_1 := blk_frozen BK502.out 1
     have hfz14_2 := blk_frozen BK502.out 2
     have p505 : 0 ≤ (x5_1 : Int) := of_decide_eq_true (by first | (with_reducible assumption) | assumption)
     have q505 : x5_1 < (l0_1.length : Int) := of_decide_eq_true (by first | (with_reducible assumption) | assumption)
     obtain ⟨ad505, e505, hx505_0⟩ := Kd.at_string HR0_1.out x5_1 p505 q505
     cases e505
     replace hx505_0 := (HB.out.cell (World.block_lt_of_cell? w _ hx505_0)).trans hx505_0
     replace p505 := eq_true p505
     replace q505 := eq_true q505
     go_wp2
     go_roundg k1
     case measure => have := HK1.out; omega
     case rel => exact ⟨(x4_1 ++ (rdOf ByteArray.empty l0_1 x5_1)), (wrap64 (x5_1 + 1)), (by first | rfl | (simp; done) | (simp [*]; done)), (by first | rfl | (simp; done) | (simp [*]; done)), H', ⟨by have := HK1.out; omega⟩, ⟨by refine kK_ ?_; exact BK502.out⟩, ⟨hS_ GE502.out⟩⟩
    rw [if_neg c10] at H
    have c10b0 := decide_eq_false c10
    clear c10
    have H' := Aside0.mk H
    clear H
    go_wp2
    go_loopg [4, 6] k1 (fun kq v4 v6 w' => ∃ (x4_2 : ByteArray) (x6_2 : Int), v4 = .string x4_2 ∧ v6 = .int .i64 x6_2 ∧ Aside0 (spec_SigText.l1 kq x4_2 x6_2 a0_0 l0_1 l0_2 = some (r1, r2)) ∧ Aside0 (kq ≤ k1) ∧ Aside0 (w'.heap[gb502]? = some (.cells #[.int .i64 a0_0, (.slice A0_1 l0_1.length c0_1), (.slice A0_2 l0_2.length c0_2)] 37 (0, 0))) ∧ Aside0 (Below w.heap.size w w'))
    case atStart => exact ⟨(x4_1), (0), (by first | rfl | (simp; done) | (simp [*]; done)), (by first | rfl | (simp; done) | (simp [*]; done)), H', ⟨Nat.le_refl _⟩, ⟨by refine kK_ ?_; exact BK502.out⟩, ⟨hS_ GE502.out⟩⟩
    case round =>
     clear H'
     obtain ⟨x4_2, x6_2, rfl, rfl, HA, HK2, BK502, HB⟩ := hrel
     cases gk with
     | zero => exact absurd HA.out (by simp [spec_SigText.l1])
     | succ k2 =>
      have H := HA.out
      clear HA
      simp only [spec_SigText.l1] at H
      by_cases c15 : x6_2 < 2
      rotate_left
      ·rw [if_neg c15] at H
       have c15b0 := decide_eq_false c15
       clear c15
       simp only [Option.some.injEq, Prod.mk.injEq] at H
       obtain ⟨rfl, rfl⟩ := H
       go_wp2
       go_ret2
       exact ⟨by first | rfl | (simp [errW_none, errW_some] <;> rfl) | (simp [*, errW_none, errW_some] <;> rfl), hS_ GE502.out⟩
      rw [if_pos c15] at H
      have c15b0 := decide_eq_true c15
      clear c15
      obtain ⟨c16b0, H⟩ := iD_ H
      obtain ⟨c17b0, H⟩ := iD_ H
      obtain ⟨c18, H⟩ := iN_ H
      have c18b0 := eq_true c18
      have c18b1 := decide_eq_true c18
      try have c18b2 : (9223372036854775807 < x4_2.size + (rdOf ByteArray.empty l0_2 x6_2).size) = False := eq_false (Nat.not_lt.2 c18)
      have H' := Aside0.mk H
      clear H
      have hcz19_0 : wr.cell? ⟨gb502, 0, none⟩ = some (.int .i64 a0_0) := (blk_cell BK502.out 0).trans rfl
      have hcz19_1 : wr.cell? ⟨gb502, 1, none⟩ = some (.slice A0_1 l0_1.length c0_1) := (blk_cell BK502.out 1).trans rfl
      have hcz19_2 : wr.cell? ⟨gb502, 2, none⟩ = some (.slice A0_2 l0_2.length c0_2) := (blk_cell BK502.out 2).trans rfl
      have hfz19_0 := blk_frozen BK502.out 0
      have hfz19_1 := blk_frozen BK502.out 1
      have hfz19_2 := blk_frozen BK502.out 2
      have p506 : 0 ≤ (x6_2 : Int) := of_decide_eq_true (by first | (with_reducible assumption) | assumption)
      have q506 : x6_2 < (l0_2.length : Int) := of_decide_eq_true (by first | (with_reducible assumption) | assumption)
      obtain ⟨ad506, e506, hx506_0⟩ := Kd.at_string HR0_2.out x6_2 p506 q506
      cases e506
      replace hx506_0 := (HB.out.cell (World.block_lt_of_cell? w _ hx506_0)).trans hx506_0
      replace p506 := eq_true p506
      replace q506 := eq_true q506
      go_wp2
      go_roundg k2
      case measure => have := HK1.out; have := HK2.out; omega
      case rel => exact ⟨(x4_2 ++ (rdOf ByteArray.empty l0_2 x6_2)), (wrap64 (x6_2 + 1)), (by first | rfl | (simp; done) | (simp [*]; done)), (by first | rfl | (simp; done) | (simp [*]; done)), H', ⟨by have := HK1.out; have := HK2.out; omega⟩, ⟨by refine kK_ ?_; exact BK502.out⟩, ⟨hS_ GE502.out⟩⟩
 ·replace c3 := Bool.eq_false_iff.mpr c3
  subst c3
  replace H := iF_ H
  simp only [Option.some.injEq, Prod.mk.injEq] at H
  obtain ⟨rfl, rfl⟩ := H
  go_enter Try.func83, Try.ntmps83
  go_wp2_with (first | ((with_reducible refine gate_dst (N := 1) rfl ?_); refine box_event ?hg (N := 1) ?hd (cs := #[.int .i64 a0_0, .slice A0_1 l0_1.length c0_1, .slice A0_2 l0_2.length c0_2]) (t := 37) ?hr ?_; (case hd => rfl); (case hg => rfl); (case hr => first | (go_simp; done) | (go_simp; rfl)); intro gb502 hg w20 hbox hb; have n_ := b_ (below_step (hB_) hb) <| b_ (hbox) <| b_ (by rw [hg]; exact (below_size (hB_)) : w.heap.size ≤ gb502) <| c_ (by rw [hg]; exact (below_size (hB_)) : w.heap.size ≤ gb502); clear HB; obtain ⟨HB, BK502, GW502, GE502⟩ := n_; clear hb hbox hg; have hcz21_0 : w20.cell? ⟨gb502, 0, none⟩ = some (.int .i64 a0_0) := (blk_cell BK502.out 0).trans rfl; have hcz21_1 : w20.cell? ⟨gb502, 1, none⟩ = some (.slice A0_1 l0_1.length c0_1) := (blk_cell BK502.out 1).trans rfl; have hcz21_2 : w20.cell? ⟨gb502, 2, none⟩ = some (.slice A0_2 l0_2.length c0_2) := (blk_cell BK502.out 2).trans rfl; have hfz21_0 := blk_frozen BK502.out 0; have hfz21_1 := blk_frozen BK502.out 1; have hfz21_2 := blk_frozen BK502.out 2) | ((with_reducible refine gate_callee (f := 49) rfl ?_); refine goesL_ (some 8) rfl rfl Try.func49 (by kernel_rfl) rfl #[.agg #[.int .i64 a0_0, .slice A0_1 l0_1.length c0_1, .slice A0_2 l0_2.length c0_2]] rfl aM_ ?_; (with_reducible refine (spec_SigOk.calls k a0_0 _ _ l0_1 _ _ l0_2 false _ ?side1 ?side2 ?side3 ?side4 A2.out).mono ?_); (case side1 => exact cR_ (Kd.C_below HR0_1.out HB.out)); (case side2 => exact HC0_1.out); (case side3 => exact cR_ (Kd.C_below HR0_2.out HB.out)); (case side4 => exact HC0_2.out); rintro e w22 ⟨rfl, hb⟩; refine ⟨_, rfl, ?_⟩; have n_ := b_ (blk_below (g := gb502) (o := .cells #[.int .i64 a0_0, .slice A0_1 l0_1.length c0_1, .slice A0_2 l0_2.length c0_2] 37 (0, 0)) (rK_ BK502.out) hb) <| c_ (below_step (hS_ GE502.out) hb); clear BK502 HB; obtain ⟨BK502, HB⟩ := n_; (try clear hb)))
  go_ret2
  exact ⟨by first | rfl | (simp [errW_none, errW_some] <;> rfl) | (simp [*, errW_none, errW_some] <;> rfl), hS_ GE502.out⟩

/-! ### spec_HyperText: function 43 -/
def spec_HyperText.f (k : Nat) (a0_0 : Int) (l0_1 : List ByteArray) (l0_2 : List ByteArray) (a0_3 : ByteArray) (a0_4 : Int) (l0_5 : List ByteArray) (l0_6 : List ByteArray) : Option (ByteArray × Bool) := (spec_SigText.f k a0_0 l0_1 l0_2).bind fun bt508 => ((spec_SigText.f k a0_4 l0_5 l0_6).bind fun bt510 => (if bt508.2 = true then (if bt510.2 = true then (if (a0_3.size : Int) = 4 then (if bt508.1.size + a0_3.size ≤ 9223372036854775807 then (if (bt508.1 ++ a0_3).size + bt510.1.size ≤ 9223372036854775807 then (some ((bt508.1 ++ a0_3) ++ bt510.1, true)) else (none)) else (none)) else (some ((⟨#[]⟩ : ByteArray), false))) else (some ((⟨#[]⟩ : ByteArray), false))) else (some ((⟨#[]⟩ : ByteArray), false))))
theorem spec_HyperText.mono : ∀ a0 a1 a2 a3 a4 a5 a6 k, LeO (spec_HyperText.f k a0 a1 a2 a3 a4 a5 a6) (spec_HyperText.f (k + 1) a0 a1 a2 a3 a4 a5 a6) := by
 intro a0 a1 a2 a3 a4 a5 a6 k
 unfold spec_HyperText.f
 exact o1_ spec_SigText.mono
theorem spec_HyperText.calls (k : Nat) (a0_0 : Int) (A0_1 : Option Addr) (c0_1 : Nat) (l0_1 : List ByteArray) (A0_2 : Option Addr) (c0_2 : Nat) (l0_2 : List ByteArray) (a0_3 : ByteArray) (a0_4 : Int) (A0_5 : Option Addr) (c0_5 : Nat) (l0_5 : List ByteArray) (A0_6 : Option Addr) (c0_6 : Nat) (l0_6 : List ByteArray) (r1 : ByteArray) (r2 : Bool) (w : World) (hr0_1 : Kd.C Kd.string w A0_1 l0_1.length l0_1) (hc0_1 : l0_1.length ≤ c0_1) (hr0_2 : Kd.C Kd.string w A0_2 l0_2.length l0_2) (hc0_2 : l0_2.length ≤ c0_2) (hr0_5 : Kd.C Kd.string w A0_5 l0_5.length l0_5) (hc0_5 : l0_5.length ≤ c0_5) (hr0_6 : Kd.C Kd.string w A0_6 l0_6.length l0_6) (hc0_6 : l0_6.length ≤ c0_6) (h : spec_HyperText.f k a0_0 l0_1 l0_2 a0_3 a0_4 l0_5 l0_6 = some (r1, r2)) :
  Calls Try.prog 43 #[.agg #[.int .i64 a0_0, .slice A0_1 l0_1.length c0_1, .slice A0_2 l0_2.length c0_2, .string a0_3, .int .i64 a0_4, .slice A0_5 l0_5.length c0_5, .slice A0_6 l0_6.length c0_6]] w fun e w' => e = .returned (.tuple #[.string r1, .bool r2]) ∧ Below w.heap.size w w' := by
 have hu39 := Try.underlying39
 have hu37 := Try.underlying37
 have HR0_1 := Aside0.mk hr0_1
 have HC0_1 := Aside0.mk hc0_1
 clear hr0_1 hc0_1
 have HR0_2 := Aside0.mk hr0_2
 have HC0_2 := Aside0.mk hc0_2
 clear hr0_2 hc0_2
 have HR0_5 := Aside0.mk hr0_5
 have HC0_5 := Aside0.mk hc0_5
 clear hr0_5 hc0_5
 have HR0_6 := Aside0.mk hr0_6
 have HC0_6 := Aside0.mk hc0_6
 clear hr0_6 hc0_6
 have HB := Aside0.mk (Below.refl w.heap.size w)
 delta spec_HyperText.f at h
 have H := h
 clear h
 obtain ⟨⟨t508, t509⟩, A2, H⟩ := bN_ H
 obtain ⟨⟨t510, t511⟩, A3, H⟩ := bN_ H
 by_cases c4 : t509 = true
 ·subst c4
  replace H := iT_ H
  by_cases c5 : t511 = true
  ·subst c5
   replace H := iT_ H
   by_cases c6 : (a0_3.size : Int) = 4
   ·rw [if_pos c6] at H
    have c6b0 : ((a0_3.size : Int) == 4) = true := beq_iff_eq.mpr c6
    have c6b1 : ((a0_3.size : Int) != 4) = false := bne_eq_false_iff_eq.mpr c6
    clear c6
    obtain ⟨c7, H⟩ := iN_ H
    have c7b0 := eq_true c7
    have c7b1 := decide_eq_true c7
    try have c7b2 : (9223372036854775807 < t508.size + a0_3.size) = False := eq_false (Nat.not_lt.2 c7)
    obtain ⟨c8, H⟩ := iN_ H
    have c8b0 := eq_true c8
    have c8b1 := decide_eq_true c8
    try have c8b2 : (9223372036854775807 < (t508 ++ a0_3).size + t510.size) = False := eq_false (Nat.not_lt.2 c8)
    try (have c8b9 : (9223372036854775807 < (t508 ++ a0_3).size + t510.size) = False := c8b2; simp only [ByteArray.size_append] at c8b9)
    simp only [Option.some.injEq, Prod.mk.injEq] at H
    obtain ⟨rfl, rfl⟩ := H
    go_enter Try.func43, Try.ntmps43
    go_wp2_with (first | ((with_reducible refine gate_dst (N := 1) rfl ?_); (try (refine gate_guard (by rfl) ?_; dsimp only)); refine box_event ?hg (N := 1) ?hd (cs := #[.int .i64 a0_0, .slice A0_1 l0_1.length c0_1, .slice A0_2 l0_2.length c0_2, .string a0_3, .int .i64 a0_4, .slice A0_5 l0_5.length c0_5, .slice A0_6 l0_6.length c0_6]) (t := 39) ?hr ?_; (case hd => rfl); (case hg => rfl); (case hr => first | (go_simp; done) | (go_simp; rfl)); intro gb507 hg w9 hbox hb; have n_ := b_ (below_step (hB_) hb) <| b_ (hbox) <| b_ (by rw [hg]; exact (below_size (hB_)) : w.heap.size ≤ gb507) <| c_ (by rw [hg]; exact (below_size (hB_)) : w.heap.size ≤ gb507); clear HB; obtain ⟨HB, BK507, GW507, GE507⟩ := n_; clear hb hbox hg; have hcz10_0 : w9.cell? ⟨gb507, 0, none⟩ = some (.int .i64 a0_0) := (blk_cell BK507.out 0).trans rfl; have hcz10_1 : w9.cell? ⟨gb507, 1, none⟩ = some (.slice A0_1 l0_1.length c0_1) := (blk_cell BK507.out 1).trans rfl; have hcz10_2 : w9.cell? ⟨gb507, 2, none⟩ = some (.slice A0_2 l0_2.length c0_2) := (blk_cell BK507.out 2).trans rfl; have hcz10_3 : w9.cell? ⟨gb507, 3, none⟩ = some (.string a0_3) := (blk_cell BK507.out 3).trans rfl; have hcz10_4 : w9.cell? ⟨gb507, 4, none⟩ = some (.int .i64 a0_4) := (blk_cell BK507.out 4).trans rfl; have hcz10_5 : w9.cell? ⟨gb507, 5, none⟩ = some (.slice A0_5 l0_5.length c0_5) := (blk_cell BK507.out 5).trans rfl; have hcz10_6 : w9.cell? ⟨gb507, 6, none⟩ = some (.slice A0_6 l0_6.length c0_6) := (blk_cell BK507.out 6).trans rfl; have hfz10_0 := blk_frozen BK507.out 0; have hfz10_1 := blk_frozen BK507.out 1; have hfz10_2 := blk_frozen BK507.out 2; have hfz10_3 := blk_frozen BK507.out 3; have hfz10_4 := blk_frozen BK507.out 4; have hfz10_5 := blk_frozen BK507.out 5; have hfz10_6 := blk_frozen BK507.out 6) | ((with_reducible refine gate_callee (f := 83) rfl ?_); refine goesL_ (some 11) rfl rfl Try.func83 (by kernel_rfl) rfl #[.agg #[.int .i64 a0_0, .slice A0_1 l0_1.length c0_1, .slice A0_2 l0_2.length c0_2]] rfl aM_ ?_; (with_reducible refine (spec_SigText.calls k a0_0 _ _ l0_1 _ _ l0_2 t508 true _ ?side1 ?side2 ?side3 ?side4 A2.out).mono ?_); (case side1 => exact cR_ (Kd.C_below HR0_1.out HB.out)); (case side2 => exact HC0_1.out); (case side3 => exact cR_ (Kd.C_below HR0_2.out HB.out)); (case side4 => exact HC0_2.out); rintro e w11 ⟨rfl, hb⟩; refine ⟨_, rfl, ?_⟩; have n_ := b_ (blk_below (g := gb507) (o := .cells #[.int .i64 a0_0, .slice A0_1 l0_1.length c0_1, .slice A0_2 l0_2.length c0_2, .string a0_3, .int .i64 a0_4, .slice A0_5 l0_5.length c0_5, .slice A0_6 l0_6.length c0_6] 39 (0, 0)) (rK_ BK507.out) hb) <| c_ (below_step (hS_ GE507.out) hb); clear BK507 HB; obtain ⟨BK507, HB⟩ := n_; have hcz12_0 : w11.cell? ⟨gb507, 0, none⟩ = some (.int .i64 a0_0) := (blk_cell BK507.out 0).trans rfl; have hcz12_1 : w11.cell? ⟨gb507, 1, none⟩ = some (.slice A0_1 l0_1.length c0_1) := (blk_cell BK507.out 1).trans rfl; have hcz12_2 : w11.cell? ⟨gb507, 2, none⟩ = some (.slice A0_2 l0_2.length c0_2) := (blk_cell BK507.out 2).trans rfl; have hcz12_3 : w11.cell? ⟨gb507, 3, none⟩ = some (.string a0_3) := (blk_cell BK507.out 3).trans rfl; have hcz12_4 : w11.cell? ⟨gb507, 4, none⟩ = some (.int .i64 a0_4) := (blk_cell BK507.out 4).trans rfl; have hcz12_5 : w11.cell? ⟨gb507, 5, none⟩ = some (.slice A0_5 l0_5.length c0_5) := (blk_cell BK507.out 5).trans rfl; have hcz12_6 : w11.cell? ⟨gb507, 6, none⟩ = some (.slice A0_6 l0_6.length c0_6) := (blk_cell BK507.out 6).trans rfl; have hfz12_0 := blk_frozen BK507.out 0; have hfz12_1 := blk_frozen BK507.out 1; have hfz12_2 := blk_frozen BK507.out 2; have hfz12_3 := blk_frozen BK507.out 3; have hfz12_4 := blk_frozen BK507.out 4; have hfz12_5 := blk_frozen BK507.out 5; have hfz12_6 := blk_frozen BK507.out 6) | ((with_reducible refine gate_callee (f := 83) rfl ?_); refine goesL_ (some 17) rfl rfl Try.func83 (by kernel_rfl) rfl #[.agg #[.int .i64 a0_4, .slice A0_5 l0_5.length c0_5, .slice A0_6 l0_6.length c0_6]] rfl aM_ ?_; (with_reducible refine (spec_SigText.calls k a0_4 _ _ l0_5 _ _ l0_6 t510 true _ ?side1 ?side2 ?side3 ?side4 A3.out).mono ?_); (case side1 => exact cR_ (Kd.C_below HR0_5.out HB.out)); (case side2 => exact HC0_5.out); (case side3 => exact cR_ (Kd.C_below HR0_6.out HB.out)); (case side4 => exact HC0_6.out); rintro e w13 ⟨rfl, hb⟩; refine ⟨_, rfl, ?_⟩; have n_ := b_ (blk_below (g := gb507) (o := .cells #[.int .i64 a0_0, .slice A0_1 l0_1.length c0_1, .slice A0_2 l0_2.length c0_2, .string a0_3, .int .i64 a0_4, .slice A0_5 l0_5.length c0_5, .slice A0_6 l0_6.length c0_6] 39 (0, 0)) (rK_ BK507.out) hb) <| c_ (below_step (hS_ GE507.out) hb); clear BK507 HB; obtain ⟨BK507, HB⟩ := n_; have hcz14_0 : w13.cell? ⟨gb507, 0, none⟩ = some (.int .i64 a0_0) := (blk_cell BK507.out 0).trans rfl; have hcz14_1 : w13.cell? ⟨gb507, 1, none⟩ = some (.slice A0_1 l0_1.length c0_1) := (blk_cell BK507.out 1).trans rfl; have hcz14_2 : w13.cell? ⟨gb507, 2, none⟩ = some (.slice A0_2 l0_2.length c0_2) := (blk_cell BK507.out 2).trans rfl; have hcz14_3 : w13.cell? ⟨gb507, 3, none⟩ = some (.string a0_3) := (blk_cell BK507.out 3).trans rfl; have hcz14_4 : w13.cell? ⟨gb507, 4, none⟩ = some (.int .i64 a0_4) := (blk_cell BK507.out 4).trans rfl; have hcz14_5 : w13.cell? ⟨gb507, 5, none⟩ = some (.slice A0_5 l0_5.length c0_5) := (blk_cell BK507.out 5).trans rfl; have hcz14_6 : w13.cell? ⟨gb507, 6, none⟩ = some (.slice A0_6 l0_6.length c0_6) := (blk_cell BK507.out 6).trans rfl; have hfz14_0 := blk_frozen BK507.out 0; have hfz14_1 := blk_frozen BK507.out 1; have hfz14_2 := blk_frozen BK507.out 2; have hfz14_3 := blk_frozen BK507.out 3; have hfz14_4 := blk_frozen BK507.out 4; have hfz14_5 := blk_frozen BK507.out 5; have hfz14_6 := blk_frozen BK507.out 6))
    go_ret2
    exact ⟨by first | rfl | (simp [errW_none, errW_some] <;> rfl) | (simp [*, errW_none, errW_some] <;> rfl), hS_ GE507.out⟩
   rw [if_neg c6] at H
   have c6b0 : ((a0_3.size : Int) == 4) = false := beq_eq_false_iff_ne.mpr c6
   have c6b1 : ((a0_3.size : Int) != 4) = true := bne_iff_ne.mpr c6
   simp only [Option.some.injEq, Prod.mk.injEq] at H
   obtain ⟨rfl, rfl⟩ := H
   go_enter Try.func43, Try.ntmps43
   go_wp2_with (first | ((with_reducible refine gate_dst (N := 1) rfl ?_); (try (refine gate_guard (by rfl) ?_; dsimp only)); refine box_event ?hg (N := 1) ?hd (cs := #[.int .i64 a0_0, .slice A0_1 l0_1.length c0_1, .slice A0_2 l0_2.length c0_2, .string a0_3, .int .i64 a0_4, .slice A0_5 l0_5.length c0_5, .slice A0_6 l0_6.length c0_6]) (t := 39) ?hr ?_; (case hd => rfl); (case hg => rfl); (case hr => first | (go_simp; done) | (go_simp; rfl)); intro gb507 hg w15 hbox hb; have n_ := b_ (below_step (hB_) hb) <| b_ (hbox) <| b_ (by rw [hg]; exact (below_size (hB_)) : w.heap.size ≤ gb507) <| c_ (by rw [hg]; exact (below_size (hB_)) : w.heap.size ≤ gb507); clear HB; obtain ⟨HB, BK507, GW507, GE507⟩ := n_; clear hb hbox hg; have hcz16_0 : w15.cell? ⟨gb507, 0, none⟩ = some (.int .i64 a0_0) := (blk_cell BK507.out 0).trans rfl; have hcz16_1 : w15.cell? ⟨gb507, 1, none⟩ = some (.slice A0_1 l0_1.length c0_1) := (blk_cell BK507.out 1).trans rfl; have hcz16_2 : w15.cell? ⟨gb507, 2, none⟩ = some (.slice A0_2 l0_2.length c0_2) := (blk_cell BK507.out 2).trans rfl; have hcz16_3 : w15.cell? ⟨gb507, 3, none⟩ = some (.string a0_3) := (blk_cell BK507.out 3).trans rfl; have hcz16_4 : w15.cell? ⟨gb507, 4, none⟩ = some (.int .i64 a0_4) := (blk_cell BK507.out 4).trans rfl; have hcz16_5 : w15.cell? ⟨gb507, 5, none⟩ = some (.slice A0_5 l0_5.length c0_5) := (blk_cell BK507.out 5).trans rfl; have hcz16_6 : w15.cell? ⟨gb507, 6, none⟩ = some (.slice A0_6 l0_6.length c0_6) := (blk_cell BK507.out 6).trans rfl; have hfz16_0 := blk_frozen BK507.out 0; have hfz16_1 := blk_frozen BK507.out 1; have hfz16_2 := blk_frozen BK507.out 2; have hfz16_3 := blk_frozen BK507.out 3; have hfz16_4 := blk_frozen BK507.out 4; have hfz16_5 := blk_frozen BK507.out 5; have hfz16_6 := blk_frozen BK507.out 6) | ((with_reducible refine gate_callee (f := 83) rfl ?_); refine goesL_ (some 11) rfl rfl Try.func83 (by kernel_rfl) rfl #[.agg #[.int .i64 a0_0, .slice A0_1 l0_1.length c0_1, .slice A0_2 l0_2.length c0_2]] rfl aM_ ?_; (with_reducible refine (spec_SigText.calls k a0_0 _ _ l0_1 _ _ l0_2 t508 true _ ?side1 ?side2 ?side3 ?side4 A2.out).mono ?_); (case side1 => exact cR_ (Kd.C_below HR0_1.out HB.out)); (case side2 => exact HC0_1.out); (case side3 => exact cR_ (Kd.C_below HR0_2.out HB.out)); (case side4 => exact HC0_2.out); rintro e w17 ⟨rfl, hb⟩; refine ⟨_, rfl, ?_⟩; have n_ := b_ (blk_below (g := gb507) (o := .cells #[.int .i64 a0_0, .slice A0_1 l0_1.length c0_1, .slice A0_2 l0_2.length c0_2, .string a0_3, .int .i64 a0_4, .slice A0_5 l0_5.length c0_5, .slice A0_6 l0_6.length c0_6] 39 (0, 0)) (rK_ BK507.out) hb) <| c_ (below_step (hS_ GE507.out) hb); clear BK507 HB; obtain ⟨BK507, HB⟩ := n_; have hcz18_0 : w17.cell? ⟨gb507, 0, none⟩ = some (.int .i64 a0_0) := (blk_cell BK507.out 0).trans rfl; have hcz18_1 : w17.cell? ⟨gb507, 1, none⟩ = some (.slice A0_1 l0_1.length c0_1) := (blk_cell BK507.out 1).trans rfl; have hcz18_2 : w17.cell? ⟨gb507, 2, none⟩ = some (.slice A0_2 l0_2.length c0_2) := (blk_cell BK507.out 2).trans rfl; have hcz18_3 : w17.cell? ⟨gb507, 3, none⟩ = some (.string a0_3) := (blk_cell BK507.out 3).trans rfl; have hcz18_4 : w17.cell? ⟨gb507, 4, none⟩ = some (.int .i64 a0_4) := (blk_cell BK507.out 4).trans rfl; have hcz18_5 : w17.cell? ⟨gb507, 5, none⟩ = some (.slice A0_5 l0_5.length c0_5) := (blk_cell BK507.out 5).trans rfl; have hcz18_6 : w17.cell? ⟨gb507, 6, none⟩ = some (.slice A0_6 l0_6.length c0_6) := (blk_cell BK507.out 6).trans rfl; have hfz18_0 := blk_frozen BK507.out 0; have hfz18_1 := blk_frozen BK507.out 1; have hfz18_2 := blk_frozen BK507.out 2; have hfz18_3 := blk_frozen BK507.out 3; have hfz18_4 := blk_frozen BK507.out 4; have hfz18_5 := blk_frozen BK507.out 5; have hfz18_6 := blk_frozen BK507.out 6) | ((with_reducible refine gate_callee (f := 83) rfl ?_); refine goesL_ (some 17) rfl rfl Try.func83 (by kernel_rfl) rfl #[.agg #[.int .i64 a0_4, .slice A0_5 l0_5.length c0_5, .slice A0_6 l0_6.length c0_6]] rfl aM_ ?_; (with_reducible refine (spec_SigText.calls k a0_4 _ _ l0_5 _ _ l0_6 t510 true _ ?side1 ?side2 ?side3 ?side4 A3.out).mono ?_); (case side1 => exact cR_ (Kd.C_below HR0_5.out HB.out)); (case side2 => exact HC0_5.out); (case side3 => exact cR_ (Kd.C_below HR0_6.out HB.out)); (case side4 => exact HC0_6.out); rintro e w19 ⟨rfl, hb⟩; refine ⟨_, rfl, ?_⟩; have n_ := b_ (blk_below (g := gb507) (o := .cells #[.int .i64 a0_0, .slice A0_1 l0_1.length c0_1, .slice A0_2 l0_2.length c0_2, .string a0_3, .int .i64 a0_4, .slice A0_5 l0_5.length c0_5, .slice A0_6 l0_6.length c0_6] 39 (0, 0)) (rK_ BK507.out) hb) <| c_ (below_step (hS_ GE507.out) hb); clear BK507 HB; obtain ⟨BK507, HB⟩ := n_; have hcz20_0 : w19.cell? ⟨gb507, 0, none⟩ = some (.int .i64 a0_0) := (blk_cell BK507.out 0).trans rfl; have hcz20_1 : w19.cell? ⟨gb507, 1, none⟩ = some (.slice A0_1 l0_1.length c0_1) := (blk_cell BK507.out 1).trans rfl; have hcz20_2 : w19.cell? ⟨gb507, 2, none⟩ = some (.slice A0_2 l0_2.length c0_2) := (blk_cell BK507.out 2).trans rfl; have hcz20_3 : w19.cell? ⟨gb507, 3, none⟩ = some (.string a0_3) := (blk_cell BK507.out 3).trans rfl; have hcz20_4 : w19.cell? ⟨gb507, 4, none⟩ = some (.int .i64 a0_4) := (blk_cell BK507.out 4).trans rfl; have hcz20_5 : w19.cell? ⟨gb507, 5, none⟩ = some (.slice A0_5 l0_5.length c0_5) := (blk_cell BK507.out 5).trans rfl; have hcz20_6 : w19.cell? ⟨gb507, 6, none⟩ = some (.slice A0_6 l0_6.length c0_6) := (blk_cell BK507.out 6).trans rfl; have hfz20_0 := blk_frozen BK507.out 0; have hfz20_1 := blk_frozen BK507.out 1; have hfz20_2 := blk_frozen BK507.out 2; have hfz20_3 := blk_frozen BK507.out 3; have hfz20_4 := blk_frozen BK507.out 4; have hfz20_5 := blk_frozen BK507.out 5; have hfz20_6 := blk_frozen BK507.out 6))
   go_ret2
   exact ⟨by first | rfl | (simp [errW_none, errW_some] <;> rfl) | (simp [*, errW_none, errW_some] <;> rfl), hS_ GE507.out⟩
  ·replace c5 := Bool.eq_false_iff.mpr c5
   subst c5
   replace H := iF_ H
   simp only [Option.some.injEq, Prod.mk.injEq] at H
   obtain ⟨rfl, rfl⟩ := H
   go_enter Try.func43, Try.ntmps43
   go_wp2_with (first | ((with_reducible refine gate_dst (N := 1) rfl ?_); (try (refine gate_guard (by rfl) ?_; dsimp only)); refine box_event ?hg (N := 1) ?hd (cs := #[.int .i64 a0_0, .slice A0_1 l0_1.length c0_1, .slice A0_2 l0_2.length c0_2, .string a0_3, .int .i64 a0_4, .slice A0_5 l0_5.length c0_5, .slice A0_6 l0_6.length c0_6]) (t := 39) ?hr ?_; (case hd => rfl); (case hg => rfl); (case hr => first | (go_simp; done) | (go_simp; rfl)); intro gb507 hg w21 hbox hb; have n_ := b_ (below_step (hB_) hb) <| b_ (hbox) <| b_ (by rw [hg]; exact (below_size (hB_)) : w.heap.size ≤ gb507) <| c_ (by rw [hg]; exact (below_size (hB_)) : w.heap.size ≤ gb507); clear HB; obtain ⟨HB, BK507, GW507, GE507⟩ := n_; clear hb hbox hg; have hcz22_0 : w21.cell? ⟨gb507, 0, none⟩ = some (.int .i64 a0_0) := (blk_cell BK507.out 0).trans rfl; have hcz22_1 : w21.cell? ⟨gb507, 1, none⟩ = some (.slice A0_1 l0_1.length c0_1) := (blk_cell BK507.out 1).trans rfl; have hcz22_2 : w21.cell? ⟨gb507, 2, none⟩ = some (.slice A0_2 l0_2.length c0_2) := (blk_cell BK507.out 2).trans rfl; have hcz22_3 : w21.cell? ⟨gb507, 3, none⟩ = some (.string a0_3) := (blk_cell BK507.out 3).trans rfl; have hcz22_4 : w21.cell? ⟨gb507, 4, none⟩ = some (.int .i64 a0_4) := (blk_cell BK507.out 4).trans rfl; have hcz22_5 : w21.cell? ⟨gb507, 5, none⟩ = some (.slice A0_5 l0_5.length c0_5) := (blk_cell BK507.out 5).trans rfl; have hcz22_6 : w21.cell? ⟨gb507, 6, none⟩ = some (.slice A0_6 l0_6.length c0_6) := (blk_cell BK507.out 6).trans rfl; have hfz22_0 := blk_frozen BK507.out 0; have hfz22_1 := blk_frozen BK507.out 1; have hfz22_2 := blk_frozen BK507.out 2; have hfz22_3 := blk_frozen BK507.out 3; have hfz22_4 := blk_frozen BK507.out 4; have hfz22_5 := blk_frozen BK507.out 5; have hfz22_6 := blk_frozen BK507.out 6) | ((with_reducible refine gate_callee (f := 83) rfl ?_); refine goesL_ (some 11) rfl rfl Try.func83 (by kernel_rfl) rfl #[.agg #[.int .i64 a0_0, .slice A0_1 l0_1.length c0_1, .slice A0_2 l0_2.length c0_2]] rfl aM_ ?_; (with_reducible refine (spec_SigText.calls k a0_0 _ _ l0_1 _ _ l0_2 t508 true _ ?side1 ?side2 ?side3 ?side4 A2.out).mono ?_); (case side1 => exact cR_ (Kd.C_below HR0_1.out HB.out)); (case side2 => exact HC0_1.out); (case side3 => exact cR_ (Kd.C_below HR0_2.out HB.out)); (case side4 => exact HC0_2.out); rintro e w23 ⟨rfl, hb⟩; refine ⟨_, rfl, ?_⟩; have n_ := b_ (blk_below (g := gb507) (o := .cells #[.int .i64 a0_0, .slice A0_1 l0_1.length c0_1, .slice A0_2 l0_2.length c0_2, .string a0_3, .int .i64 a0_4, .slice A0_5 l0_5.length c0_5, .slice A0_6 l0_6.length c0_6] 39 (0, 0)) (rK_ BK507.out) hb) <| c_ (below_step (hS_ GE507.out) hb); clear BK507 HB; obtain ⟨BK507, HB⟩ := n_; have hcz24_0 : w23.cell? ⟨gb507, 0, none⟩ = some (.int .i64 a0_0) := (blk_cell BK507.out 0).trans rfl; have hcz24_1 : w23.cell? ⟨gb507, 1, none⟩ = some (.slice A0_1 l0_1.length c0_1) := (blk_cell BK507.out 1).trans rfl; have hcz24_2 : w23.cell? ⟨gb507, 2, none⟩ = some (.slice A0_2 l0_2.length c0_2) := (blk_cell BK507.out 2).trans rfl; have hcz24_3 : w23.cell? ⟨gb507, 3, none⟩ = some (.string a0_3) := (blk_cell BK507.out 3).trans rfl; have hcz24_4 : w23.cell? ⟨gb507, 4, none⟩ = some (.int .i64 a0_4) := (blk_cell BK507.out 4).trans rfl; have hcz24_5 : w23.cell? ⟨gb507, 5, none⟩ = some (.slice A0_5 l0_5.length c0_5) := (blk_cell BK507.out 5).trans rfl; have hcz24_6 : w23.cell? ⟨gb507, 6, none⟩ = some (.slice A0_6 l0_6.length c0_6) := (blk_cell BK507.out 6).trans rfl; have hfz24_0 := blk_frozen BK507.out 0; have hfz24_1 := blk_frozen BK507.out 1; have hfz24_2 := blk_frozen BK507.out 2; have hfz24_3 := blk_frozen BK507.out 3; have hfz24_4 := blk_frozen BK507.out 4; have hfz24_5 := blk_frozen BK507.out 5; have hfz24_6 := blk_frozen BK507.out 6) | ((with_reducible refine gate_callee (f := 83) rfl ?_); refine goesL_ (some 17) rfl rfl Try.func83 (by kernel_rfl) rfl #[.agg #[.int .i64 a0_4, .slice A0_5 l0_5.length c0_5, .slice A0_6 l0_6.length c0_6]] rfl aM_ ?_; (with_reducible refine (spec_SigText.calls k a0_4 _ _ l0_5 _ _ l0_6 t510 false _ ?side1 ?side2 ?side3 ?side4 A3.out).mono ?_); (case side1 => exact cR_ (Kd.C_below HR0_5.out HB.out)); (case side2 => exact HC0_5.out); (case side3 => exact cR_ (Kd.C_below HR0_6.out HB.out)); (case side4 => exact HC0_6.out); rintro e w25 ⟨rfl, hb⟩; refine ⟨_, rfl, ?_⟩; have n_ := b_ (blk_below (g := gb507) (o := .cells #[.int .i64 a0_0, .slice A0_1 l0_1.length c0_1, .slice A0_2 l0_2.length c0_2, .string a0_3, .int .i64 a0_4, .slice A0_5 l0_5.length c0_5, .slice A0_6 l0_6.length c0_6] 39 (0, 0)) (rK_ BK507.out) hb) <| c_ (below_step (hS_ GE507.out) hb); clear BK507 HB; obtain ⟨BK507, HB⟩ := n_; (try clear hb)))
   go_ret2
   exact ⟨by first | rfl | (simp [errW_none, errW_some] <;> rfl) | (simp [*, errW_none, errW_some] <;> rfl), hS_ GE507.out⟩
 ·replace c4 := Bool.eq_false_iff.mpr c4
  subst c4
  replace H := iF_ H
  simp only [Option.some.injEq, Prod.mk.injEq] at H
  obtain ⟨rfl, rfl⟩ := H
  go_enter Try.func43, Try.ntmps43
  go_wp2_with (first | ((with_reducible refine gate_dst (N := 1) rfl ?_); (try (refine gate_guard (by rfl) ?_; dsimp only)); refine box_event ?hg (N := 1) ?hd (cs := #[.int .i64 a0_0, .slice A0_1 l0_1.length c0_1, .slice A0_2 l0_2.length c0_2, .string a0_3, .int .i64 a0_4, .slice A0_5 l0_5.length c0_5, .slice A0_6 l0_6.length c0_6]) (t := 39) ?hr ?_; (case hd => rfl); (case hg => rfl); (case hr => first | (go_simp; done) | (go_simp; rfl)); intro gb507 hg w26 hbox hb; have n_ := b_ (below_step (hB_) hb) <| b_ (hbox) <| b_ (by rw [hg]; exact (below_size (hB_)) : w.heap.size ≤ gb507) <| c_ (by rw [hg]; exact (below_size (hB_)) : w.heap.size ≤ gb507); clear HB; obtain ⟨HB, BK507, GW507, GE507⟩ := n_; clear hb hbox hg; have hcz27_0 : w26.cell? ⟨gb507, 0, none⟩ = some (.int .i64 a0_0) := (blk_cell BK507.out 0).trans rfl; have hcz27_1 : w26.cell? ⟨gb507, 1, none⟩ = some (.slice A0_1 l0_1.length c0_1) := (blk_cell BK507.out 1).trans rfl; have hcz27_2 : w26.cell? ⟨gb507, 2, none⟩ = some (.slice A0_2 l0_2.length c0_2) := (blk_cell BK507.out 2).trans rfl; have hcz27_3 : w26.cell? ⟨gb507, 3, none⟩ = some (.string a0_3) := (blk_cell BK507.out 3).trans rfl; have hcz27_4 : w26.cell? ⟨gb507, 4, none⟩ = some (.int .i64 a0_4) := (blk_cell BK507.out 4).trans rfl; have hcz27_5 : w26.cell? ⟨gb507, 5, none⟩ = some (.slice A0_5 l0_5.length c0_5) := (blk_cell BK507.out 5).trans rfl; have hcz27_6 : w26.cell? ⟨gb507, 6, none⟩ = some (.slice A0_6 l0_6.length c0_6) := (blk_cell BK507.out 6).trans rfl; have hfz27_0 := blk_frozen BK507.out 0; have hfz27_1 := blk_frozen BK507.out 1; have hfz27_2 := blk_frozen BK507.out 2; have hfz27_3 := blk_frozen BK507.out 3; have hfz27_4 := blk_frozen BK507.out 4; have hfz27_5 := blk_frozen BK507.out 5; have hfz27_6 := blk_frozen BK507.out 6) | ((with_reducible refine gate_callee (f := 83) rfl ?_); refine goesL_ (some 11) rfl rfl Try.func83 (by kernel_rfl) rfl #[.agg #[.int .i64 a0_0, .slice A0_1 l0_1.length c0_1, .slice A0_2 l0_2.length c0_2]] rfl aM_ ?_; (with_reducible refine (spec_SigText.calls k a0_0 _ _ l0_1 _ _ l0_2 t508 false _ ?side1 ?side2 ?side3 ?side4 A2.out).mono ?_); (case side1 => exact cR_ (Kd.C_below HR0_1.out HB.out)); (case side2 => exact HC0_1.out); (case side3 => exact cR_ (Kd.C_below HR0_2.out HB.out)); (case side4 => exact HC0_2.out); rintro e w28 ⟨rfl, hb⟩; refine ⟨_, rfl, ?_⟩; have n_ := b_ (blk_below (g := gb507) (o := .cells #[.int .i64 a0_0, .slice A0_1 l0_1.length c0_1, .slice A0_2 l0_2.length c0_2, .string a0_3, .int .i64 a0_4, .slice A0_5 l0_5.length c0_5, .slice A0_6 l0_6.length c0_6] 39 (0, 0)) (rK_ BK507.out) hb) <| c_ (below_step (hS_ GE507.out) hb); clear BK507 HB; obtain ⟨BK507, HB⟩ := n_; have hcz29_0 : w28.cell? ⟨gb507, 0, none⟩ = some (.int .i64 a0_0) := (blk_cell BK507.out 0).trans rfl; have hcz29_1 : w28.cell? ⟨gb507, 1, none⟩ = some (.slice A0_1 l0_1.length c0_1) := (blk_cell BK507.out 1).trans rfl; have hcz29_2 : w28.cell? ⟨gb507, 2, none⟩ = some (.slice A0_2 l0_2.length c0_2) := (blk_cell BK507.out 2).trans rfl; have hcz29_3 : w28.cell? ⟨gb507, 3, none⟩ = some (.string a0_3) := (blk_cell BK507.out 3).trans rfl; have hcz29_4 : w28.cell? ⟨gb507, 4, none⟩ = some (.int .i64 a0_4) := (blk_cell BK507.out 4).trans rfl; have hcz29_5 : w28.cell? ⟨gb507, 5, none⟩ = some (.slice A0_5 l0_5.length c0_5) := (blk_cell BK507.out 5).trans rfl; have hcz29_6 : w28.cell? ⟨gb507, 6, none⟩ = some (.slice A0_6 l0_6.length c0_6) := (blk_cell BK507.out 6).trans rfl; have hfz29_0 := blk_frozen BK507.out 0; have hfz29_1 := blk_frozen BK507.out 1; have hfz29_2 := blk_frozen BK507.out 2; have hfz29_3 := blk_frozen BK507.out 3; have hfz29_4 := blk_frozen BK507.out 4; have hfz29_5 := blk_frozen BK507.out 5; have hfz29_6 := blk_frozen BK507.out 6) | ((with_reducible refine gate_callee (f := 83) rfl ?_); refine goesL_ (some 17) rfl rfl Try.func83 (by kernel_rfl) rfl #[.agg #[.int .i64 a0_4, .slice A0_5 l0_5.length c0_5, .slice A0_6 l0_6.length c0_6]] rfl aM_ ?_; (with_reducible refine (spec_SigText.calls k a0_4 _ _ l0_5 _ _ l0_6 t510 t511 _ ?side1 ?side2 ?side3 ?side4 A3.out).mono ?_); (case side1 => exact cR_ (Kd.C_below HR0_5.out HB.out)); (case side2 => exact HC0_5.out); (case side3 => exact cR_ (Kd.C_below HR0_6.out HB.out)); (case side4 => exact HC0_6.out); rintro e w30 ⟨rfl, hb⟩; refine ⟨_, rfl, ?_⟩; have n_ := b_ (blk_below (g := gb507) (o := .cells #[.int .i64 a0_0, .slice A0_1 l0_1.length c0_1, .slice A0_2 l0_2.length c0_2, .string a0_3, .int .i64 a0_4, .slice A0_5 l0_5.length c0_5, .slice A0_6 l0_6.length c0_6] 39 (0, 0)) (rK_ BK507.out) hb) <| c_ (below_step (hS_ GE507.out) hb); clear BK507 HB; obtain ⟨BK507, HB⟩ := n_; (try clear hb)))
  go_ret2
  exact ⟨by first | rfl | (simp [errW_none, errW_some] <;> rfl) | (simp [*, errW_none, errW_some] <;> rfl), hS_ GE507.out⟩

/-! ### spec_l02Spoilt: function 44 -/
def spec_l02Spoilt.j0 : Nat → ByteArray → Bool → List Int → Int → Int → Option (ByteArray × Int × Int)
 | 0, _, _, _, _, _ => none
 | k + 1, x1, x23, x1000, x1001, x1002 => if x23 = true then (if (x1.size : Int) > 0 then ((spec_l01Below.f x1000 x1001 x1002 (x1.size : Int)).bind fun bt521 => (if 0 ≤ bt521.1 then (if bt521.1 ≤ (x1.size : Int) then ((spec_l01Text.f k x1000 bt521.2.1 bt521.2.2 1).bind fun bt524 => (if (x1.extract 0 (bt521.1 : Int).toNat).size + bt524.1.size ≤ 9223372036854775807 then (if 0 ≤ (wrap64 (bt521.1 + 1)) then (if (wrap64 (bt521.1 + 1)) ≤ (x1.size : Int) then (if ((x1.extract 0 (bt521.1 : Int).toNat) ++ bt524.1).size + (x1.extract ((wrap64 (bt521.1 + 1)) : Int).toNat x1.size).size ≤ 9223372036854775807 then (some (((x1.extract 0 (bt521.1 : Int).toNat) ++ bt524.1) ++ (x1.extract ((wrap64 (bt521.1 + 1)) : Int).toNat x1.size), bt524.2.1, bt524.2.2)) else (none)) else (none)) else (none)) else (none))) else (none)) else (none))) else (some (x1, x1001, x1002))) else (some (x1, x1001, x1002))
def spec_l02Spoilt.f (k : Nat) (s0_0 : List Int) (s0_1 : Int) (s0_2 : Int) (a1 : ByteArray) : Option (ByteArray × Int × Int) := (spec_l01Below.f s0_0 s0_1 s0_2 12).bind fun bt512 => (if bt512.1 = 0 then ((spec_l01Text.f k s0_0 bt512.2.1 bt512.2.2 1).bind fun bt515 => (if a1.size + bt515.1.size ≤ 9223372036854775807 then (some (a1 ++ bt515.1, bt515.2.1, bt515.2.2)) else (none))) else (if bt512.1 = 1 then ((spec_l01Below.f s0_0 bt512.2.1 bt512.2.2 (wrap64 ((a1.size : Int) + 1))).bind fun bt518 => (if 0 ≤ bt518.1 then (if bt518.1 ≤ (a1.size : Int) then (some (a1.extract 0 (bt518.1 : Int).toNat, bt518.2.1, bt518.2.2)) else (none)) else (none))) else (if bt512.1 = 2 then (spec_l02Spoilt.j0 k a1 (bt512.1 == 2) s0_0 bt512.2.1 bt512.2.2) else (spec_l02Spoilt.j0 k a1 (bt512.1 == 3) s0_0 bt512.2.1 bt512.2.2))))
theorem spec_l02Spoilt.mono_l : ∀ k, (∀ y0 y1 y2 y3 y4, LeO (spec_l02Spoilt.j0 k y0 y1 y2 y3 y4) (spec_l02Spoilt.j0 (k + 1) y0 y1 y2 y3 y4))
 | 0 => fun _ _ _ _ _ r h => by simp [spec_l02Spoilt.j0] at h
 | k + 1 => by
  have ih0 := spec_l02Spoilt.mono_l k
  intros; unfold spec_l02Spoilt.j0; exact o2_ ih0 spec_l01Text.mono
theorem spec_l02Spoilt.mono : ∀ a0 a1 a2 a3 k, LeO (spec_l02Spoilt.f k a0 a1 a2 a3) (spec_l02Spoilt.f (k + 1) a0 a1 a2 a3) := by
 intro a0 a1 a2 a3 k
 have ih0 := spec_l02Spoilt.mono_l k
 unfold spec_l02Spoilt.f
 exact o2_ ih0 spec_l01Text.mono
def spec_l02Spoilt.T10 : Bool × List (List Nat × List Nat) := (true, [([], []), ([], []), ([0, 1], [0, 1]), ([], []), ([3], [3]), ([2, 4], [2, 4]), ([], []), ([], []), ([7], [7]), ([6, 8], [6, 8]), ([5, 9], [5, 9]), ([10, 4, 0, 1, 2, 3, 4, 5, 6, 7, 8, 9, 10], [10])])
def spec_l02Spoilt.B10 : List Nat := [0, 0, 3, 0, 8, 31, 0, 0, 128, 448, 1023, 2047]
theorem spec_l02Spoilt.tab10 : rtab .any (opsOf Try.f44 10) = spec_l02Spoilt.T10 := by kernel_rfl
theorem spec_l02Spoilt.bits10 : waitsOk spec_l02Spoilt.T10.2 spec_l02Spoilt.B10 = true := by kernel_rfl
theorem spec_l02Spoilt.calls (k : Nat) (g : Nat) (s0_0 : List Int) (s0_1 : Int) (s0_2 : Int) (a1 : ByteArray) (r1 : ByteArray) (r2 : Int) (r3 : Int) (w0 w : World) (hI : IsS86 w0 w g s0_0 s0_1 s0_2) (hB : Below w0.heap.size w0 w) (h : spec_l02Spoilt.f k s0_0 s0_1 s0_2 a1 = some (r1, r2, r3)) :
  Calls Try.prog 44 #[.pointer (some ⟨g, 0, none⟩), .string a1] w fun e w' => e = .returned (.string r1) ∧ IsS86 w0 w' g s0_0 r2 r3 ∧ Below w0.heap.size w0 w' ∧ KeepBut w w' g none := by
 have HI0 := Aside0.mk hI
 have HK := Aside0.mk (KeepBut.refl w g none)
 have HL := Aside0.mk hB.size
 clear hI
 have HW0 := Aside0.mk hB.size
 have HB := Aside0.mk hB
 clear hB
 delta spec_l02Spoilt.f at h
 have H := h
 clear h
 obtain ⟨⟨t512, t513, t514⟩, A3, H⟩ := bN_ H
 by_cases c4 : t512 = 0
 ·rw [if_pos c4] at H
  have c4b0 : (t512 == 0) = true := beq_iff_eq.mpr c4
  have c4b1 : (t512 != 0) = false := bne_eq_false_iff_eq.mpr c4
  clear c4
  obtain ⟨⟨t515, t516, t517⟩, A5, H⟩ := bN_ H
  obtain ⟨c6, H⟩ := iN_ H
  have c6b0 := eq_true c6
  have c6b1 := decide_eq_true c6
  try have c6b2 : (9223372036854775807 < a1.size + t515.size) = False := eq_false (Nat.not_lt.2 c6)
  simp only [Option.some.injEq, Prod.mk.injEq] at H
  obtain ⟨rfl, rfl, rfl⟩ := H
  go_enter Try.func44, Try.ntmps44
  go_wp2_with (first | ((with_reducible refine gate_callee (f := 77) rfl ?_); refine goesL_ (some 7) rfl rfl Try.func77 (by kernel_rfl) rfl #[.pointer (some ⟨g, 0, none⟩), .int .i64 12] rfl aM_ ?_; (with_reducible refine (spec_l01Below.calls g s0_0 s0_1 s0_2 12 t512 t513 t514 w0 _ ?side1 ?side2 A3.out).mono ?_); (case side1 => exact u5_); (case side2 => exact u2_ (IsS86.ge HI0.out)); rintro e w7 ⟨rfl, hi, hb, hk⟩; refine ⟨_, rfl, ?_⟩; have n_ := b_ (KeepBut.trans ((u3_)) hk (.inl rfl)) <| b_ (hb) <| c_ (hi); clear HK HB HI0; obtain ⟨HK, HB, HI0⟩ := n_; (try clear hi)) | ((with_reducible refine gate_callee (f := 76) rfl ?_); refine goesL_ (some 12) rfl rfl Try.func76 (by kernel_rfl) rfl #[.pointer (some ⟨g, 0, none⟩), .int .i64 1] rfl aM_ ?_; (with_reducible refine (spec_l01Text.calls k g s0_0 t513 t514 1 t515 t516 t517 w0 _ ?side1 ?side2 A5.out).mono ?_); (case side1 => exact u5_); (case side2 => exact u2_ (IsS86.ge HI0.out)); rintro e w8 ⟨rfl, hi, hb, hk⟩; refine ⟨_, rfl, ?_⟩; have n_ := b_ (KeepBut.trans ((u3_)) hk (.inl rfl)) <| b_ (hb) <| c_ (hi); clear HK HB HI0; obtain ⟨HK, HB, HI0⟩ := n_; (try clear hi)))
  go_ret
  exact ⟨by first | rfl | (simp [errW_none, errW_some] <;> rfl) | (simp [*, errW_none, errW_some] <;> rfl), (u5_), (u2_ (IsS86.ge HI0.out)), (u3_)⟩
 rw [if_neg c4] at H
 have c4b0 : (t512 == 0) = false := beq_eq_false_iff_ne.mpr c4
 have c4b1 : (t512 != 0) = true := bne_iff_ne.mpr c4
 by_cases c9 : t512 = 1
 ·rw [if_pos c9] at H
  have c9b0 : (t512 == 1) = true := beq_iff_eq.mpr c9
  have c9b1 : (t512 != 1) = false := bne_eq_false_iff_eq.mpr c9
  clear c9
  obtain ⟨⟨t518, t519, t520⟩, A10, H⟩ := bN_ H
  obtain ⟨c11, H⟩ := iN_ H
  have c11b0 := eq_true c11
  have c11b1 := decide_eq_true c11
  clear c11
  obtain ⟨c12, H⟩ := iN_ H
  have c12b0 := eq_true c12
  have c12b1 := decide_eq_true c12
  clear c12
  simp only [Option.some.injEq, Prod.mk.injEq] at H
  obtain ⟨rfl, rfl, rfl⟩ := H
  go_enter Try.func44, Try.ntmps44
  go_wp2_with (first | ((with_reducible refine gate_callee (f := 77) rfl ?_); refine goesL_ (some 7) rfl rfl Try.func77 (by kernel_rfl) rfl #[.pointer (some ⟨g, 0, none⟩), .int .i64 12] rfl aM_ ?_; (with_reducible refine (spec_l01Below.calls g s0_0 s0_1 s0_2 12 t512 t513 t514 w0 _ ?side1 ?side2 A3.out).mono ?_); (case side1 => exact u5_); (case side2 => exact u2_ (IsS86.ge HI0.out)); rintro e w13 ⟨rfl, hi, hb, hk⟩; refine ⟨_, rfl, ?_⟩; have n_ := b_ (KeepBut.trans ((u3_)) hk (.inl rfl)) <| b_ (hb) <| c_ (hi); clear HK HB HI0; obtain ⟨HK, HB, HI0⟩ := n_; (try clear hi)) | ((with_reducible refine gate_callee (f := 77) rfl ?_); refine goesL_ (some 21) rfl rfl Try.func77 (by kernel_rfl) rfl #[.pointer (some ⟨g, 0, none⟩), .int .i64 (wrap64 ((a1.size : Int) + 1))] rfl aM_ ?_; (with_reducible refine (spec_l01Below.calls g s0_0 t513 t514 (wrap64 ((a1.size : Int) + 1)) t518 t519 t520 w0 _ ?side1 ?side2 A10.out).mono ?_); (case side1 => exact u5_); (case side2 => exact u2_ (IsS86.ge HI0.out)); rintro e w14 ⟨rfl, hi, hb, hk⟩; refine ⟨_, rfl, ?_⟩; have n_ := b_ (KeepBut.trans ((u3_)) hk (.inl rfl)) <| b_ (hb) <| c_ (hi); clear HK HB HI0; obtain ⟨HK, HB, HI0⟩ := n_; (try clear hi)))
  go_ret
  exact ⟨by first | rfl | (simp [errW_none, errW_some] <;> rfl) | (simp [*, errW_none, errW_some] <;> rfl), (u5_), (u2_ (IsS86.ge HI0.out)), (u3_)⟩
 rw [if_neg c9] at H
 have c9b0 : (t512 == 1) = false := beq_eq_false_iff_ne.mpr c9
 have c9b1 : (t512 != 1) = true := bne_iff_ne.mpr c9
 have HC15 := Aside0.mk H
 clear H
 go_enter Try.func44, Try.ntmps44
 go_upto_if 23 with (first | ((with_reducible refine gate_callee (f := 77) rfl ?_); refine goesL_ (some 7) rfl rfl Try.func77 (by kernel_rfl) rfl #[.pointer (some ⟨g, 0, none⟩), .int .i64 12] rfl aM_ ?_; (with_reducible refine (spec_l01Below.calls g s0_0 s0_1 s0_2 12 t512 t513 t514 w0 _ ?side1 ?side2 A3.out).mono ?_); (case side1 => exact u5_); (case side2 => exact u2_ (IsS86.ge HI0.out)); rintro e w16 ⟨rfl, hi, hb, hk⟩; refine ⟨_, rfl, ?_⟩; have n_ := b_ (KeepBut.trans ((u3_)) hk (.inl rfl)) <| b_ (hb) <| c_ (hi); clear HK HB HI0; obtain ⟨HK, HB, HI0⟩ := n_; (try clear hi)))
 (try simp only [Act.put, List.setIfInBounds_toArray, List.set_cons_zero, List.set_cons_succ])
 go_cut [23] (fun v23 wc => ∃ (kq : Nat) (x23_14 : Bool), v23 = .bool x23_14 ∧ Aside0 (spec_l02Spoilt.j0 kq a1 x23_14 s0_0 t513 t514 = some (r1, r2, r3)) ∧ Aside0 (kq ≤ k) ∧ Aside0 (IsS86 w0 wc g s0_0 t513 t514) ∧ Aside0 (KeepBut w wc g none) ∧ Aside0 (Below w0.heap.size w0 wc))
 case first =>
  have H := HC15.out
  clear HC15
  by_cases c17 : t512 = 2
  ·rw [if_pos c17] at H
   have c17b0 : (t512 == 2) = true := beq_iff_eq.mpr c17
   have c17b1 : (t512 != 2) = false := bne_eq_false_iff_eq.mpr c17
   clear c17
   (first | rw [c17b0] | (simp only [i64_w, i32_w]; rw [c17b0]) | skip)
   have H' := Aside0.mk H
   clear H
   go_wp2
   go_meet
   case rel => exact ⟨_, ((t512 == 2)), (by first | rfl | (simp; done) | (simp [*]; done)), H', ⟨by first | omega | exact Nat.le_refl _⟩, ⟨(u5_)⟩, ⟨(u3_)⟩, ⟨(u2_ (IsS86.ge HI0.out))⟩⟩
  rw [if_neg c17] at H
  have c17b0 : (t512 == 2) = false := beq_eq_false_iff_ne.mpr c17
  have c17b1 : (t512 != 2) = true := bne_iff_ne.mpr c17
  (first | rw [c17b0] | (simp only [i64_w, i32_w]; rw [c17b0]) | skip)
  have H' := Aside0.mk H
  clear H
  go_wp2
  go_meet
  case rel => exact ⟨_, ((t512 == 3)), (by first | rfl | (simp; done) | (simp [*]; done)), H', ⟨by first | omega | exact Nat.le_refl _⟩, ⟨(u5_)⟩, ⟨(u3_)⟩, ⟨(u2_ (IsS86.ge HI0.out))⟩⟩
 case rest =>
  clear HC15
  obtain ⟨kq, x23_14, rfl, HA, HJ14, HI0, HK, HB⟩ := hcut
  cases kq with
  | zero => exact absurd HA.out (by simp [spec_l02Spoilt.j0])
  | succ kj14 =>
   have H := HA.out
   clear HA
   simp only [spec_l02Spoilt.j0] at H
   by_cases c18 : x23_14 = true
   ·subst c18
    replace H := iT_ H
    by_cases c19 : (a1.size : Int) > 0
    rotate_left
    ·rw [if_neg c19] at H
     have c19b0 := decide_eq_false c19
     have c19b1 : decide (0 < a1.size) = false := decide_eq_false (by omega)
     clear c19
     simp only [Option.some.injEq, Prod.mk.injEq] at H
     obtain ⟨rfl, rfl, rfl⟩ := H
     go_wp2
     go_ret
     exact ⟨by first | rfl | (simp [errW_none, errW_some] <;> rfl) | (simp [*, errW_none, errW_some] <;> rfl), (u5_), (u2_ (IsS86.ge HI0.out)), (u3_)⟩
    rw [if_pos c19] at H
    have c19b0 := decide_eq_true c19
    have c19b1 : decide (0 < a1.size) = true := decide_eq_true (by omega)
    clear c19
    obtain ⟨⟨t521, t522, t523⟩, A20, H⟩ := bN_ H
    obtain ⟨c21, H⟩ := iN_ H
    have c21b0 := eq_true c21
    have c21b1 := decide_eq_true c21
    clear c21
    obtain ⟨c22, H⟩ := iN_ H
    have c22b0 := eq_true c22
    have c22b1 := decide_eq_true c22
    clear c22
    obtain ⟨⟨t524, t525, t526⟩, A23, H⟩ := bN_ H
    obtain ⟨c24, H⟩ := iN_ H
    have c24b0 := eq_true c24
    have c24b1 := decide_eq_true c24
    try have c24b2 : (9223372036854775807 < (a1.extract 0 (t521 : Int).toNat).size + t524.size) = False := eq_false (Nat.not_lt.2 c24)
    have c_x1 : (9223372036854775807 < t521.toNat + t524.size) = False := by
     have h_ := of_decide_eq_true c22b1
     have e_ : (a1.extract 0 t521.toNat).size = t521.toNat := by rw [ByteArray.size_extract]; omega
     rw [← e_]; exact c24b2
    obtain ⟨ji25, hji25⟩ : ∃ j_ : Int, (wrap64 (t521 + 1)) = j_ := ⟨_, rfl⟩
    first | rw [hji25] at H | simp only [hji25] at H
    (try rw [hji25] at A20)
    (try rw [hji25] at A23)
    have hji25w : (IntKind.i64.wrap (t521 + 1)) = ji25 := (i64_w _).trans hji25
    obtain ⟨c26, H⟩ := iN_ H
    have c26b0 := eq_true c26
    have c26b1 := decide_eq_true c26
    clear c26
    obtain ⟨c27, H⟩ := iN_ H
    have c27b0 := eq_true c27
    have c27b1 := decide_eq_true c27
    clear c27
    obtain ⟨c28, H⟩ := iN_ H
    have c28b0 := eq_true c28
    have c28b1 := decide_eq_true c28
    try have c28b2 : (9223372036854775807 < ((a1.extract 0 (t521 : Int).toNat) ++ t524).size + (a1.extract ((ji25) : Int).toNat a1.size).size) = False := eq_false (Nat.not_lt.2 c28)
    try (have c28b9 : (9223372036854775807 < ((a1.extract 0 (t521 : Int).toNat) ++ t524).size + (a1.extract ((ji25) : Int).toNat a1.size).size) = False := c28b2; simp only [ByteArray.size_append] at c28b9)
    have c_x2 : (9223372036854775807 < t521.toNat + t524.size + (a1.size - ji25.toNat)) = False := by
     have h_ := of_decide_eq_true c22b1
     have h2_ := of_decide_eq_true c27b1
     have e_ : (a1.extract 0 t521.toNat ++ t524).size = t521.toNat + t524.size := by rw [ByteArray.size_append, ByteArray.size_extract]; omega
     have e2_ : (a1.extract ji25.toNat a1.size).size = a1.size - ji25.toNat := by rw [ByteArray.size_extract]; omega
     rw [← e_, ← e2_]; exact c28b2
    simp only [Option.some.injEq, Prod.mk.injEq] at H
    obtain ⟨rfl, rfl, rfl⟩ := H
    try go_wp2_with (first | ((with_reducible refine gate_callee (f := 77) rfl ?_); refine goesL_ (some 32) rfl rfl Try.func77 (by kernel_rfl) rfl #[.pointer (some ⟨g, 0, none⟩), .int .i64 (a1.size : Int)] rfl aM_ ?_; (with_reducible refine (spec_l01Below.calls g s0_0 t513 t514 (a1.size : Int) t521 t522 t523 w0 _ ?side1 ?side2 A20.out).mono ?_); (case side1 => exact u5_); (case side2 => exact u2_ (IsS86.ge HI0.out)); rintro e w29 ⟨rfl, hi, hb, hk⟩; refine ⟨_, rfl, ?_⟩; have n_ := b_ (KeepBut.trans ((u3_)) hk (.inl rfl)) <| b_ (hb) <| c_ (hi); clear HK HB HI0; obtain ⟨HK, HB, HI0⟩ := n_; (try clear hi)))
    have n_ := b_ (IsS86.drew HI0.out) <| b_ (keep_drew HK.out) <| c_ (below_drew1 HB.out)
    clear HI0 HK HB
    obtain ⟨HI0, HK, HB⟩ := n_
    refine start_ (n := 12) (S := fun w' => True) (ds := []) (bb_ 12 0) (by kernel_rfl) rfl rfl trivial (fun hHeld => ?_); refine with_tabW spec_l02Spoilt.tab10 spec_l02Spoilt.bits10 (fun HT_ HW_ => ?_)
    generalize w29.drew = w30 at HI0 HK HB hHeld ⊢
    refine pS_ 0 33 (bb_ 12 1) HT_.out ?_
    refine pS_ 1 34 (bb_ 12 3) HT_.out ?_
    refine pS_ 2 35 (bb_ 12 7) HT_.out ?_
    refine pS_ 3 36 (bb_ 12 15) HT_.out ?_
    refine pS_ 6 39 (bb_ 12 79) HT_.out ?_
    refine pS_ 7 40 (bb_ 12 207) HT_.out ?_
    refine pS_ 8 41 (bb_ 12 463) HT_.out ?_
    refine pS_ 9 42 (bb_ 12 975) HT_.out ?_
    refine one_ (i := 4) (N := some 37) (bb_ 12 991) rfl rfl (one_of HT_.out (by kernel_rfl)) (by decide) (fun K hK => ?_)
    refine goes_ Try.func76 (by kernel_rfl) rfl #[.pointer (some ⟨g, 0, none⟩), .int .i64 1] (by rfl) rfl rfl aM_ ?_
    with_reducible refine (spec_l01Text.calls kj14 g s0_0 t522 t523 1 t524 t525 t526 w0 _ ?side1 ?side2 A23.out).mono ?_
    (case side1 => exact u5_)
    (case side2 => exact u2_ (IsS86.ge HI0.out))
    rintro e w31 ⟨rfl, hi, hb, hk⟩
    refine ⟨_, rfl, ?_⟩
    have n_ := b_ (KeepBut.trans ((u3_)) hk (.inl rfl)) <| b_ (hb) <| c_ (hi)
    clear HK HB HI0
    obtain ⟨HK, HB, HI0⟩ := n_
    refine hK.out _ _ trivial (fun hHeld => ?_)
    clear hK K
    refine norm_ (a' := ?_) ?_ ?_
    rotate_left
    ·show Act.put _ (some 37) _ = _
     simp only [Act.put, List.setIfInBounds_toArray, List.set_cons_zero, List.set_cons_succ, i64_w, i32_w]
     rfl
    refine pS_ 5 38 (bb_ 12 1023) HT_.out ?_
    refine pS_ 10 43 (bb_ 12 2047) HT_.out ?_
    refine pS_ 11 4 (bb_ 12 4095) HT_.out ?_
    refine done_ (done_of HT_.out (by kernel_rfl)) ?_
    try go_wp2
    go_ret
    exact ⟨by first | rfl | (simp [errW_none, errW_some] <;> rfl) | (simp only [← hji25]; first | rfl | (simp [errW_none, errW_some] <;> rfl)) | (simp [*, errW_none, errW_some] <;> rfl), (u5_), (u2_ (IsS86.ge HI0.out)), (u3_)⟩
   ·replace c18 := Bool.eq_false_iff.mpr c18
    subst c18
    replace H := iF_ H
    simp only [Option.some.injEq, Prod.mk.injEq] at H
    obtain ⟨rfl, rfl, rfl⟩ := H
    go_wp2
    go_ret
    exact ⟨by first | rfl | (simp [errW_none, errW_some] <;> rfl) | (simp [*, errW_none, errW_some] <;> rfl), (u5_), (u2_ (IsS86.ge HI0.out)), (u3_)⟩

/-! ### impl_ReadSig: function 45 -/
mutual
def impl_ReadSig.j0 : Nat → ByteArray → Bool → Option (Int × List ByteArray × List ByteArray × Bool)
 | 0, _, _ => none
 | k + 1, x0, x14 => if x14 = true then (some (0, ([] : List ByteArray), ([] : List ByteArray), false)) else (if 0 < (x0.size : Int) then (impl_ReadSig.l0 k x0 0 (wrap64 (bt x0 0)) ([] : List ByteArray) ([] : List ByteArray)) else (none))
def impl_ReadSig.l0 : Nat → ByteArray → Int → Int → List ByteArray → List ByteArray → Option (Int × List ByteArray × List ByteArray × Bool)
 | 0, _, _, _, _, _ => none
 | k + 1, x0, x20, x558000, x558001, x558002 => if x20 < 12 then (if 0 ≤ (wrap64 (1 + (wrap64 (x20 * 4)))) then (if (wrap64 (1 + (wrap64 (x20 * 4)))) ≤ (wrap64 (1 + (wrap64 ((wrap64 (x20 + 1)) * 4)))) then (if (wrap64 (1 + (wrap64 ((wrap64 (x20 + 1)) * 4)))) ≤ (x0.size : Int) then (if x20 < 10 then (if x558001.length < 8796093022208 then (impl_ReadSig.l0 k x0 (wrap64 (x20 + 1)) x558000 (x558001 ++ [x0.extract ((wrap64 (1 + (wrap64 (x20 * 4)))) : Int).toNat ((wrap64 (1 + (wrap64 ((wrap64 (x20 + 1)) * 4)))) : Int).toNat]) x558002) else (none)) else (if x558002.length < 8796093022208 then (impl_ReadSig.l0 k x0 (wrap64 (x20 + 1)) x558000 x558001 (x558002 ++ [x0.extract ((wrap64 (1 + (wrap64 (x20 * 4)))) : Int).toNat ((wrap64 (1 + (wrap64 ((wrap64 (x20 + 1)) * 4)))) : Int).toNat])) else (none))) else (none)) else (none)) else (none)) else (some (x558000, x558001, x558002, true))
end
def impl_ReadSig.f (k : Nat) (a0 : ByteArray) : Option (Int × List ByteArray × List ByteArray × Bool) := if (a0.size : Int) = 49 then (if 0 < (a0.size : Int) then (impl_ReadSig.j0 k a0 (decide ((bt a0 0) ≥ 4))) else (none)) else (impl_ReadSig.j0 k a0 true)
theorem impl_ReadSig.mono_l : ∀ k, (∀ y0 y1, LeO (impl_ReadSig.j0 k y0 y1) (impl_ReadSig.j0 (k + 1) y0 y1)) ∧ (∀ y0 y1 y2 y3 y4, LeO (impl_ReadSig.l0 k y0 y1 y2 y3 y4) (impl_ReadSig.l0 (k + 1) y0 y1 y2 y3 y4))
 | 0 => ⟨fun _ _ r h => by simp [impl_ReadSig.j0] at h, fun _ _ _ _ _ r h => by simp [impl_ReadSig.l0] at h⟩
 | k + 1 => by
  obtain ⟨ih0, ih1⟩ := impl_ReadSig.mono_l k
  refine ⟨?_, ?_⟩ <;> (intros; (first | unfold impl_ReadSig.j0 | unfold impl_ReadSig.l0); exact o2_ ih0 ih1)
theorem impl_ReadSig.mono : ∀ a0 k, LeO (impl_ReadSig.f k a0) (impl_ReadSig.f (k + 1) a0) := by
 intro a0 k
 obtain ⟨ih0, ih1⟩ := impl_ReadSig.mono_l k
 unfold impl_ReadSig.f
 exact o2_ ih0 ih1
theorem impl_ReadSig.calls (k : Nat) (a0 : ByteArray) (r1 : Int) (r2 : List ByteArray) (r3 : List ByteArray) (r4 : Bool) (w : World) (h : impl_ReadSig.f k a0 = some (r1, r2, r3, r4)) :
  Calls Try.prog 45 #[.string a0] w fun e w' => ∃ v1_ v2_ : Value, e = .returned (.tuple #[.agg #[.int .i64 r1, v1_, v2_], .bool r4]) ∧ Kd.R Kd.string 9 w' w.heap.size (fun k_ => some k_ ≠ (v2_ : Value).ownBlock) v1_ r2 ∧ Kd.R Kd.string 9 w' w.heap.size (fun k_ => some k_ ≠ (v1_ : Value).ownBlock) v2_ r3 ∧ Below w.heap.size w w' := by
 have hu37 := Try.underlying37
 have HB := Aside0.mk (Below.refl w.heap.size w)
 delta impl_ReadSig.f at h
 have H := h
 clear h
 have HC2 := Aside0.mk H
 clear H
 go_enter Try.func45, Try.ntmps45
 go_upto_region 1 with (first | ((with_reducible refine gate_dst (N := 2) rfl ?_); refine box_event ?hg (N := 2) ?hd (cs := #[.int .i64 0, .slice none 0 0, .slice none 0 0]) (t := 37) ?hr ?_; (case hd => rfl); (case hg => rfl); (case hr => first | (go_simp; done) | (go_simp; rfl)); intro gb556 hg w3 hbox hb; have n_ := b_ (below_step (hB_) hb) <| b_ (hbox) <| b_ (by rw [hg]; exact (below_size (hB_)) : w.heap.size ≤ gb556) <| c_ (by rw [hg]; exact (below_size (hB_)) : w.heap.size ≤ gb556); clear HB; obtain ⟨HB, BK556, GW556, GE556⟩ := n_; clear hb hbox hg))
 (try simp only [Act.put, List.setIfInBounds_toArray, List.set_cons_zero, List.set_cons_succ])
 go_cut [14] (fun v14 wc => ∃ (kq : Nat) (x14_1 : Bool), v14 = .bool x14_1 ∧ Aside0 (impl_ReadSig.j0 kq a0 x14_1 = some (r1, r2, r3, r4)) ∧ Aside0 (kq ≤ k) ∧ Aside0 (wc.heap[gb556]? = some (.cells #[.int .i64 0, (.slice none 0 0), (.slice none 0 0)] 37 (0, 0))) ∧ Aside0 (Below w.heap.size w wc))
 case first =>
  have H := HC2.out
  clear HC2
  by_cases c4 : (a0.size : Int) = 49
  ·rw [if_pos c4] at H
   have c4b0 : ((a0.size : Int) == 49) = true := beq_iff_eq.mpr c4
   have c4b1 : ((a0.size : Int) != 49) = false := bne_eq_false_iff_eq.mpr c4
   clear c4
   (first | rw [c4b0] | (simp only [i64_w, i32_w]; rw [c4b0]) | skip)
   obtain ⟨c5, H⟩ := iN_ H
   have c5b0 := decide_eq_true c5
   have c5b1 : decide (0 < a0.size) = true := decide_eq_true (by omega)
   clear c5
   have H' := Aside0.mk H
   clear H
   have p6 : 0 ≤ (0 : Int) := (by omega)
   have q6 : 0 < a0.size := (by have : (0 : Int) < (a0.size : Int) := of_decide_eq_true (by first | (with_reducible assumption) | assumption); omega)
   have hx6 : ∀ h : 0 < a0.size, ((a0[0]'h).toNat : Int) = bt a0 0 := bt_at a0 0
   clear p6
   have qi6 : (0 < (a0.size : Int)) = True := eq_true (of_decide_eq_true (by first | (with_reducible assumption) | assumption))
   replace q6 := eq_true q6
   go_wp2
   go_meet
   case rel => exact ⟨_, (decide ((bt a0 0) ≥ 4)), (by first | rfl | (simp; done) | (simp [*]; done)), H', ⟨by first | omega | exact Nat.le_refl _⟩, ⟨by refine kK_ ?_; exact BK556.out⟩, ⟨hS_ GE556.out⟩⟩
  rw [if_neg c4] at H
  have c4b0 : ((a0.size : Int) == 49) = false := beq_eq_false_iff_ne.mpr c4
  have c4b1 : ((a0.size : Int) != 49) = true := bne_iff_ne.mpr c4
  (first | rw [c4b0] | (simp only [i64_w, i32_w]; rw [c4b0]) | skip)
  have H' := Aside0.mk H
  clear H
  go_wp2
  go_meet
  case rel => exact ⟨_, (true), (by first | rfl | (simp; done) | (simp [*]; done)), H', ⟨by first | omega | exact Nat.le_refl _⟩, ⟨by refine kK_ ?_; exact BK556.out⟩, ⟨hS_ GE556.out⟩⟩
 case rest =>
  clear HC2
  obtain ⟨kq, x14_1, rfl, HA, HJ1, BK556, HB⟩ := hcut
  cases kq with
  | zero => exact absurd HA.out (by simp [impl_ReadSig.j0])
  | succ kj1 =>
   have H := HA.out
   clear HA
   simp only [impl_ReadSig.j0] at H
   by_cases c7 : x14_1 = true
   ·subst c7
    replace H := iT_ H
    simp only [Option.some.injEq, Prod.mk.injEq] at H
    obtain ⟨rfl, rfl, rfl, rfl⟩ := H
    have hcz8_0 : wc.cell? ⟨gb556, 0, none⟩ = some (.int .i64 0) := (blk_cell BK556.out 0).trans rfl
    have hcz8_1 : wc.cell? ⟨gb556, 1, none⟩ = some (.slice none 0 0) := (blk_cell BK556.out 1).trans rfl
    have hcz8_2 : wc.cell? ⟨gb556, 2, none⟩ = some (.slice none 0 0) := (blk_cell BK556.out 2).trans rfl
    have hfz8_0 := blk_frozen BK556.out 0
    have hfz8_1 := blk_frozen BK556.out 1
    have hfz8_2 := blk_frozen BK556.out 2
    go_wp2
    refine bodyPost_ret (results_ct rfl _ _ gb556 37 #[.int .i64 0, .slice none 0 0, .slice none 0 0] (0, 0) _ rfl (by refine kK_ ?_; refine blk_put (cs := #[.int .i64 0, .slice none 0 0, .slice none 0 0]) ?_ 2 _ rfl; refine kK_ ?_; refine blk_put (cs := #[.int .i64 0, .slice none 0 0, .slice none 0 0]) ?_ 1 _ rfl; refine kK_ ?_; refine blk_put (cs := #[.int .i64 0, .slice none 0 0, .slice none 0 0]) ?_ 0 _ rfl; exact rK_ BK556.out) Try.underlying37 rfl (by kernel_rfl)) rfl ?_
    exact ⟨_, _, by first | rfl | (simp [errW_none, errW_some] <;> rfl) | (simp [*, errW_none, errW_some] <;> rfl), by first | exact Kd.R_nil _ _ _ _ _ | exact Kd.N_nil _ _ _ _ _ | exact Kd.V_nil _ _ _ _ _ | exact Kd.Q_nil _ _ _ _ _ | exact Kd.S_nil _ _ _ _ _, by first | exact Kd.R_nil _ _ _ _ _ | exact Kd.N_nil _ _ _ _ _ | exact Kd.V_nil _ _ _ _ _ | exact Kd.Q_nil _ _ _ _ _ | exact Kd.S_nil _ _ _ _ _, hS_ GE556.out⟩
   ·replace c7 := Bool.eq_false_iff.mpr c7
    subst c7
    replace H := iF_ H
    obtain ⟨c9, H⟩ := iN_ H
    have c9b0 := decide_eq_true c9
    have c9b1 : decide (0 < a0.size) = true := decide_eq_true (by omega)
    clear c9
    have H' := Aside0.mk H
    clear H
    have p10 : 0 ≤ (0 : Int) := (by omega)
    have q10 : 0 < a0.size := (by have : (0 : Int) < (a0.size : Int) := of_decide_eq_true (by first | (with_reducible assumption) | assumption); omega)
    have hx10 : ∀ h : 0 < a0.size, ((a0[0]'h).toNat : Int) = bt a0 0 := bt_at a0 0
    clear p10
    have qi10 : (0 < (a0.size : Int)) = True := eq_true (of_decide_eq_true (by first | (with_reducible assumption) | assumption))
    replace q10 := eq_true q10
    go_wp2_with (first | ((with_reducible refine gate_dst (N := 4) rfl ?_); refine box_event ?hg (N := 4) ?hd (cs := #[.int .i64 0, .slice none 0 0, .slice none 0 0]) (t := 37) ?hr ?_; (case hd => rfl); (case hg => rfl); (case hr => first | (go_simp; done) | (go_simp; rfl)); intro gb557 hg w11 hbox hb; have n_ := b_ (blk_below (g := gb556) (o := .cells #[.int .i64 0, .slice none 0 0, .slice none 0 0] 37 (0, 0)) (rK_ BK556.out) hb) <| b_ (below_step (hS_ GE556.out) hb) <| b_ (hbox) <| b_ (by rw [hg]; exact (below_size (hS_ GE556.out)) : w.heap.size ≤ gb557) <| b_ (by rw [hg]; exact (below_size (hS_ GE556.out)) : w.heap.size ≤ gb557) <| b_ (by rw [hg]; exact Nat.ne_of_lt (blk_lt (g := gb556) (o := .cells #[.int .i64 0, .slice none 0 0, .slice none 0 0] 37 (0, 0)) (rK_ BK556.out)) : gb556 ≠ gb557) <| c_ (by rw [hg]; exact Nat.ne_of_gt (blk_lt (g := gb556) (o := .cells #[.int .i64 0, .slice none 0 0, .slice none 0 0] 37 (0, 0)) (rK_ BK556.out)) : gb557 ≠ gb556); clear BK556 HB; obtain ⟨BK556, HB, BK557, GW557, GE557, NB556_557, NB557_556⟩ := n_; clear hb hbox hg; have hnb12 := NB557_556.out; have hnc12 := NB556_557.out; have hcz13_0 : w11.cell? ⟨gb557, 0, none⟩ = some (.int .i64 0) := (blk_cell BK557.out 0).trans rfl; have hcz13_1 : w11.cell? ⟨gb557, 1, none⟩ = some (.slice none 0 0) := (blk_cell BK557.out 1).trans rfl; have hcz13_2 : w11.cell? ⟨gb557, 2, none⟩ = some (.slice none 0 0) := (blk_cell BK557.out 2).trans rfl; have hfz13_0 := blk_frozen BK557.out 0; have hfz13_1 := blk_frozen BK557.out 1; have hfz13_2 := blk_frozen BK557.out 2))
    go_loopg [20] kj1 (fun kq v20 w' => ∃ (x20_2 : Int) (x558001_2 : List ByteArray) (x558002_2 : List ByteArray) (u558001 : Value) (u558002 : Value), v20 = .int .i64 x20_2 ∧ Aside0 (impl_ReadSig.l0 kq a0 x20_2 (wrap64 (bt a0 0)) x558001_2 x558002_2 = some (r1, r2, r3, r4)) ∧ Aside0 (kq ≤ kj1) ∧ Aside0 (Kd.R Kd.string 9 w' w.heap.size (fun k_ => some k_ ≠ (u558002 : Value).ownBlock) u558001 x558001_2) ∧ Aside0 (Kd.R Kd.string 9 w' w.heap.size (fun k_ => some k_ ≠ (u558001 : Value).ownBlock) u558002 x558002_2) ∧ Aside0 (w'.heap[gb556]? = some (.cells #[.int .i64 0, (.slice none 0 0), (.slice none 0 0)] 37 (0, 0))) ∧ Aside0 (w'.heap[gb557]? = some (.cells #[.int .i64 (wrap64 (bt a0 0)), u558001, u558002] 37 (0, 0))) ∧ Aside0 (Below w.heap.size w w'))
    case atStart => exact ⟨(0), (([] : List ByteArray)), (([] : List ByteArray)), (.slice none 0 0), (.slice none 0 0), (by first | rfl | (simp; done) | (simp [*]; done)), H', ⟨Nat.le_refl _⟩, ⟨by first | exact Kd.R_nil _ _ _ _ _ | exact Kd.N_nil _ _ _ _ _ | exact Kd.V_nil _ _ _ _ _ | exact Kd.Q_nil _ _ _ _ _ | exact Kd.S_nil _ _ _ _ _⟩, ⟨by first | exact Kd.R_nil _ _ _ _ _ | exact Kd.N_nil _ _ _ _ _ | exact Kd.V_nil _ _ _ _ _ | exact Kd.Q_nil _ _ _ _ _ | exact Kd.S_nil _ _ _ _ _⟩, ⟨by refine kK_ ?_; refine blk_far ?_ NB556_557.out _; refine kK_ ?_; refine blk_far ?_ NB556_557.out _; refine kK_ ?_; refine blk_far ?_ NB556_557.out _; refine kK_ ?_; exact BK556.out⟩, ⟨by refine kK_ ?_; refine blk_put (cs := #[.int .i64 (wrap64 (bt a0 0)), .slice none 0 0, .slice none 0 0]) ?_ 2 _ rfl; refine kK_ ?_; refine blk_put (cs := #[.int .i64 (wrap64 (bt a0 0)), .slice none 0 0, .slice none 0 0]) ?_ 1 _ rfl; refine kK_ ?_; refine blk_put (cs := #[.int .i64 0, .slice none 0 0, .slice none 0 0]) ?_ 0 _ rfl; refine kK_ ?_; exact BK557.out⟩, ⟨(u4_ GE556.out GE557.out)⟩⟩
    case round =>
     clear H'
     obtain ⟨x20_2, x558001_2, x558002_2, u558001, u558002, rfl, HA, HK2, HO_558001, HO_558002, BK556, BK557, HB⟩ := hrel
     cases gk with
     | zero => exact absurd HA.out (by simp [impl_ReadSig.l0])
     | succ k2 =>
      have H := HA.out
      clear HA
      simp only [impl_ReadSig.l0] at H
      by_cases c14 : x20_2 < 12
      rotate_left
      ·rw [if_neg c14] at H
       have c14b0 := decide_eq_false c14
       clear c14
       simp only [Option.some.injEq, Prod.mk.injEq] at H
       obtain ⟨rfl, rfl, rfl, rfl⟩ := H
       have hnb32 := NB557_556.out
       have hnc32 := NB556_557.out
       have hcz33_0 : wr.cell? ⟨gb557, 0, none⟩ = some (.int .i64 (wrap64 (bt a0 0))) := (blk_cell BK557.out 0).trans rfl
       have hcz33_1 : wr.cell? ⟨gb557, 1, none⟩ = some (u558001) := (blk_cell BK557.out 1).trans rfl
       have hcz33_2 : wr.cell? ⟨gb557, 2, none⟩ = some (u558002) := (blk_cell BK557.out 2).trans rfl
       have hfz33_0 := blk_frozen BK557.out 0
       have hfz33_1 := blk_frozen BK557.out 1
       have hfz33_2 := blk_frozen BK557.out 2
       have hcz34_0 : wr.cell? ⟨gb556, 0, none⟩ = some (.int .i64 0) := (blk_cell BK556.out 0).trans rfl
       have hcz34_1 : wr.cell? ⟨gb556, 1, none⟩ = some (.slice none 0 0) := (blk_cell BK556.out 1).trans rfl
       have hcz34_2 : wr.cell? ⟨gb556, 2, none⟩ = some (.slice none 0 0) := (blk_cell BK556.out 2).trans rfl
       have hfz34_0 := blk_frozen BK556.out 0
       have hfz34_1 := blk_frozen BK556.out 1
       have hfz34_2 := blk_frozen BK556.out 2
       obtain ⟨Ao35, co35, eo35⟩ := Kd.R_slice HO_558001.out
       subst eo35
       obtain ⟨Ao36, co36, eo36⟩ := Kd.R_slice HO_558002.out
       subst eo36
       go_wp2
       refine bodyPost_ret (results_ct rfl _ _ gb556 37 #[.int .i64 (wrap64 (bt a0 0)), .slice Ao35 x558001_2.length co35, .slice Ao36 x558002_2.length co36] (0, 0) _ rfl (by refine kK_ ?_; refine blk_put (cs := #[.int .i64 (wrap64 (bt a0 0)), .slice Ao35 x558001_2.length co35, .slice none 0 0]) ?_ 2 _ rfl; refine kK_ ?_; refine blk_put (cs := #[.int .i64 (wrap64 (bt a0 0)), .slice none 0 0, .slice none 0 0]) ?_ 1 _ rfl; refine kK_ ?_; refine blk_put (cs := #[.int .i64 0, .slice none 0 0, .slice none 0 0]) ?_ 0 _ rfl; exact rK_ BK556.out) Try.underlying37 rfl (by kernel_rfl)) rfl ?_
       exact ⟨_, _, by first | rfl | (simp [errW_none, errW_some] <;> rfl) | (simp [*, errW_none, errW_some] <;> rfl), by refine kR_ ?_; exact Kd.R_mono (Kd.R_far (Kd.R_far (Kd.R_far (Kd.R_types HO_558001.out BK556.out (by decide)) (fun _ hk => hk.2) (.int .i64 (wrap64 (bt a0 0)))) (fun _ hk => hk.2) _) (fun _ hk => hk.2) _) (fun _ hk => hk.1), by refine kR_ ?_; exact Kd.R_mono (Kd.R_far (Kd.R_far (Kd.R_far (Kd.R_types HO_558002.out BK556.out (by decide)) (fun _ hk => hk.2) (.int .i64 (wrap64 (bt a0 0)))) (fun _ hk => hk.2) _) (fun _ hk => hk.2) _) (fun _ hk => hk.1), (u4_ GE556.out GE557.out)⟩
      rw [if_pos c14] at H
      have c14b0 := decide_eq_true c14
      clear c14
      obtain ⟨ji15, hji15⟩ : ∃ j_ : Int, (wrap64 (1 + (wrap64 (x20_2 * 4)))) = j_ := ⟨_, rfl⟩
      first | rw [hji15] at H | simp only [hji15] at H
      have hji15w : (IntKind.i64.wrap (1 + (wrap64 (x20_2 * 4)))) = ji15 := (i64_w _).trans hji15
      obtain ⟨c16, H⟩ := iN_ H
      have c16b0 := eq_true c16
      have c16b1 := decide_eq_true c16
      clear c16
      obtain ⟨c17, H⟩ := iN_ H
      have c17b0 := eq_true c17
      have c17b1 := decide_eq_true c17
      obtain ⟨c18, H⟩ := iN_ H
      have c18b0 := eq_true c18
      have c18b1 := decide_eq_true c18
      by_cases c19 : x20_2 < 10
      ·rw [if_pos c19] at H
       have c19b0 := decide_eq_true c19
       clear c19
       obtain ⟨c20, H⟩ := iN_ H
       have LMc20 := Aside0.mk c20
       clear c20
       obtain ⟨y558, hy558⟩ : ∃ y_ : List ByteArray, y_ = (x558001_2 ++ [a0.extract ((ji15) : Int).toNat ((wrap64 (1 + (wrap64 ((wrap64 (x20_2 + 1)) * 4)))) : Int).toNat]) := ⟨_, rfl⟩
       first | replace H := yb_ hy558 H | rw [← hy558] at H
       have Ny558 := Aside0.mk hy558
       clear hy558
       have H' := Aside0.mk H
       clear H
       have hnb21 := NB557_556.out
       have hnc21 := NB556_557.out
       have hcz22_0 : wr.cell? ⟨gb557, 0, none⟩ = some (.int .i64 (wrap64 (bt a0 0))) := (blk_cell BK557.out 0).trans rfl
       have hcz22_1 : wr.cell? ⟨gb557, 1, none⟩ = some (u558001) := (blk_cell BK557.out 1).trans rfl
       have hcz22_2 : wr.cell? ⟨gb557, 2, none⟩ = some (u558002) := (blk_cell BK557.out 2).trans rfl
       have hfz22_0 := blk_frozen BK557.out 0
       have hfz22_1 := blk_frozen BK557.out 1
       have hfz22_2 := blk_frozen BK557.out 2
       go_wp2_with (first | ((with_reducible refine gate_builtin (b := .append) (xs := #[.tmp 35, .tmp 37]) rfl ?_); at_builtin; refine Kd.R_append Kd.string (w0 := w) w.heap.size rfl (.tmp 35) (.tmp 37) 35 9 (.string ⟨#[]⟩) 16 rfl Try.underlying35 info9 rfl (by decide) (by omega) u558001 x558001_2 (a0.extract ((ji15) : Int).toNat ((wrap64 (1 + (wrap64 ((wrap64 (x20_2 + 1)) * 4)))) : Int).toNat) [.string (a0.extract ((ji15) : Int).toNat ((wrap64 (1 + (wrap64 ((wrap64 (x20_2 + 1)) * 4)))) : Int).toNat)] (fun k_ => some k_ ≠ (u558002 : Value).ownBlock) (fun _ => False) rfl rfl ?aP (fun _ hk => hk.elim) ?aF ?aO ?aB ?aS ?aL ?_; (case aP => exact rfl); (case aB => exact ((u4_ GE556.out GE557.out))); (case aF => exact (fun k_ hk => Kd.fresh' (Kd.R_lt (rR_ HO_558002.out)) k_ hk)); (case aO => exact (rR_ HO_558001.out)); (case aS => exact (below_size ((u4_ GE556.out GE557.out)))); (case aL => have := LMc20.out; omega); intro v559 w23 ho hb hg hat; rw [← Ny558.out] at ho; have n_ := b_ (Kd.R_after (ok := (fun _ => True)) (by refine kR_ ?_; exact Kd.R_mono HO_558002.out (fun _ hk => ⟨trivial, hk⟩)) hg hat) <| b_ (blk_grown (g := gb556) (o := .cells #[.int .i64 0, .slice none 0 0, .slice none 0 0] 37 (0, 0)) (rK_ BK556.out) hg (Kd.R_ne HO_558001.out BK556.out (by decide))) <| b_ (blk_grown (g := gb557) (o := .cells #[.int .i64 (wrap64 (bt a0 0)), u558001, u558002] 37 (0, 0)) (rK_ BK557.out) hg (Kd.R_ne HO_558001.out BK557.out (by decide))) <| b_ (hb) <| c_ (ho); clear HO_558001 HO_558002 BK556 BK557 HB; obtain ⟨HO_558002, BK556, BK557, HB, HO560⟩ := n_; clear ho hb hg hat; obtain ⟨Ao24, co24, eo24⟩ := Kd.R_slice HO560.out; subst eo24; have hcz25_0 : w23.cell? ⟨gb557, 0, none⟩ = some (.int .i64 (wrap64 (bt a0 0))) := (blk_cell BK557.out 0).trans rfl; have hcz25_1 : w23.cell? ⟨gb557, 1, none⟩ = some (u558001) := (blk_cell BK557.out 1).trans rfl; have hcz25_2 : w23.cell? ⟨gb557, 2, none⟩ = some (u558002) := (blk_cell BK557.out 2).trans rfl; have hfz25_0 := blk_frozen BK557.out 0; have hfz25_1 := blk_frozen BK557.out 1; have hfz25_2 := blk_frozen BK557.out 2))
       go_roundg k2
       case measure => have := HJ1.out; have := HK2.out; omega
       case rel => exact ⟨(wrap64 (x20_2 + 1)), (y558), (x558002_2), (.slice Ao24 y558.length co24), (u558002), (by first | rfl | (simp; done) | (simp [*]; done)), H', ⟨by have := HJ1.out; have := HK2.out; omega⟩, ⟨by refine kR_ ?_; exact Kd.R_mono (Kd.R_far (Kd.R_types HO560.out BK557.out (by decide)) (fun _ hk => hk.2) _) (fun _ hk => hk.1)⟩, ⟨by refine kR_ ?_; exact Kd.R_mono (Kd.R_far (Kd.R_types HO_558002.out BK557.out (by decide)) (fun _ hk => hk.2) _) (fun _ hk => hk.1.2)⟩, ⟨by refine kK_ ?_; refine blk_far ?_ NB556_557.out _; refine kK_ ?_; exact BK556.out⟩, ⟨by refine kK_ ?_; refine blk_put (cs := #[.int .i64 (wrap64 (bt a0 0)), u558001, u558002]) ?_ 1 _ rfl; refine kK_ ?_; exact BK557.out⟩, ⟨(u4_ GE556.out GE557.out)⟩⟩
      rw [if_neg c19] at H
      have c19b0 := decide_eq_false c19
      clear c19
      obtain ⟨c26, H⟩ := iN_ H
      have LMc26 := Aside0.mk c26
      clear c26
      obtain ⟨y561, hy561⟩ : ∃ y_ : List ByteArray, y_ = (x558002_2 ++ [a0.extract ((ji15) : Int).toNat ((wrap64 (1 + (wrap64 ((wrap64 (x20_2 + 1)) * 4)))) : Int).toNat]) := ⟨_, rfl⟩
      first | replace H := yb_ hy561 H | rw [← hy561] at H
      have Ny561 := Aside0.mk hy561
      clear hy561
      have H' := Aside0.mk H
      clear H
      have hnb27 := NB557_556.out
      have hnc27 := NB556_557.out
      have hcz28_0 : wr.cell? ⟨gb557, 0, none⟩ = some (.int .i64 (wrap64 (bt a0 0))) := (blk_cell BK557.out 0).trans rfl
      have hcz28_1 : wr.cell? ⟨gb557, 1, none⟩ = some (u558001) := (blk_cell BK557.out 1).trans rfl
      have hcz28_2 : wr.cell? ⟨gb557, 2, none⟩ = some (u558002) := (blk_cell BK557.out 2).trans rfl
      have hfz28_0 := blk_frozen BK557.out 0
      have hfz28_1 := blk_frozen BK557.out 1
      have hfz28_2 := blk_frozen BK557.out 2
      go_wp2_with (first | ((with_reducible refine gate_builtin (b := .append) (xs := #[.tmp 41, .tmp 43]) rfl ?_); at_builtin; refine Kd.R_append Kd.string (w0 := w) w.heap.size rfl (.tmp 41) (.tmp 43) 35 9 (.string ⟨#[]⟩) 16 rfl Try.underlying35 info9 rfl (by decide) (by omega) u558002 x558002_2 (a0.extract ((ji15) : Int).toNat ((wrap64 (1 + (wrap64 ((wrap64 (x20_2 + 1)) * 4)))) : Int).toNat) [.string (a0.extract ((ji15) : Int).toNat ((wrap64 (1 + (wrap64 ((wrap64 (x20_2 + 1)) * 4)))) : Int).toNat)] (fun k_ => some k_ ≠ (u558001 : Value).ownBlock) (fun _ => False) rfl rfl ?aP (fun _ hk => hk.elim) ?aF ?aO ?aB ?aS ?aL ?_; (case aP => exact rfl); (case aB => exact ((u4_ GE556.out GE557.out))); (case aF => exact (fun k_ hk => Kd.fresh' (Kd.R_lt (rR_ HO_558001.out)) k_ hk)); (case aO => exact (rR_ HO_558002.out)); (case aS => exact (below_size ((u4_ GE556.out GE557.out)))); (case aL => have := LMc26.out; omega); intro v562 w29 ho hb hg hat; rw [← Ny561.out] at ho; have n_ := b_ (Kd.R_after (ok := (fun _ => True)) (by refine kR_ ?_; exact Kd.R_mono HO_558001.out (fun _ hk => ⟨trivial, hk⟩)) hg hat) <| b_ (blk_grown (g := gb556) (o := .cells #[.int .i64 0, .slice none 0 0, .slice none 0 0] 37 (0, 0)) (rK_ BK556.out) hg (Kd.R_ne HO_558002.out BK556.out (by decide))) <| b_ (blk_grown (g := gb557) (o := .cells #[.int .i64 (wrap64 (bt a0 0)), u558001, u558002] 37 (0, 0)) (rK_ BK557.out) hg (Kd.R_ne HO_558002.out BK557.out (by decide))) <| b_ (hb) <| c_ (ho); clear HO_558002 HO_558001 BK556 BK557 HB; obtain ⟨HO_558001, BK556, BK557, HB, HO563⟩ := n_; clear ho hb hg hat; obtain ⟨Ao30, co30, eo30⟩ := Kd.R_slice HO563.out; subst eo30; have hcz31_0 : w29.cell? ⟨gb557, 0, none⟩ = some (.int .i64 (wrap64 (bt a0 0))) := (blk_cell BK557.out 0).trans rfl; have hcz31_1 : w29.cell? ⟨gb557, 1, none⟩ = some (u558001) := (blk_cell BK557.out 1).trans rfl; have hcz31_2 : w29.cell? ⟨gb557, 2, none⟩ = some (u558002) := (blk_cell BK557.out 2).trans rfl; have hfz31_0 := blk_frozen BK557.out 0; have hfz31_1 := blk_frozen BK557.out 1; have hfz31_2 := blk_frozen BK557.out 2))
      go_roundg k2
      case measure => have := HJ1.out; have := HK2.out; omega
      case rel => exact ⟨(wrap64 (x20_2 + 1)), (x558001_2), (y561), (u558001), (.slice Ao30 y561.length co30), (by first | rfl | (simp; done) | (simp [*]; done)), H', ⟨by have := HJ1.out; have := HK2.out; omega⟩, ⟨by refine kR_ ?_; exact Kd.R_mono (Kd.R_far (Kd.R_types HO_558001.out BK557.out (by decide)) (fun _ hk => hk.2) _) (fun _ hk => hk.1.2)⟩, ⟨by refine kR_ ?_; exact Kd.R_mono (Kd.R_far (Kd.R_types HO563.out BK557.out (by decide)) (fun _ hk => hk.2) _) (fun _ hk => hk.1)⟩, ⟨by refine kK_ ?_; refine blk_far ?_ NB556_557.out _; refine kK_ ?_; exact BK556.out⟩, ⟨by refine kK_ ?_; refine blk_put (cs := #[.int .i64 (wrap64 (bt a0 0)), u558001, u558002]) ?_ 2 _ rfl; refine kK_ ?_; exact BK557.out⟩, ⟨(u4_ GE556.out GE557.out)⟩⟩

/-! ### impl_ReadHyper: function 21 -/
def impl_ReadHyper.f (k : Nat) (a0 : ByteArray) : Option (Int × List ByteArray × List ByteArray × ByteArray × Int × List ByteArray × List ByteArray × Bool) := if (a0.size : Int) = 102 then (if 0 ≤ 49 then (if 49 ≤ (a0.size : Int) then ((impl_ReadSig.f k (a0.extract 0 49)).bind fun bt565 => (if 53 ≤ (a0.size : Int) then ((impl_ReadSig.f k (a0.extract 53 a0.size)).bind fun bt574 => (if bt565.2.2.2 = true then (if bt574.2.2.2 = true then (if 49 ≤ 53 then (some (bt565.1, bt565.2.1, bt565.2.2.1, a0.extract 49 53, bt574.1, bt574.2.1, bt574.2.2.1, true)) else (none)) else (some (0, ([] : List ByteArray), ([] : List ByteArray), (⟨#[]⟩ : ByteArray), 0, ([] : List ByteArray), ([] : List ByteArray), false))) else (some (0, ([] : List ByteArray), ([] : List ByteArray), (⟨#[]⟩ : ByteArray), 0, ([] : List ByteArray), ([] : List ByteArray), false)))) else (none))) else (none)) else (none)) else (some (0, ([] : List ByteArray), ([] : List ByteArray), (⟨#[]⟩ : ByteArray), 0, ([] : List ByteArray), ([] : List ByteArray), false))
theorem impl_ReadHyper.mono : ∀ a0 k, LeO (impl_ReadHyper.f k a0) (impl_ReadHyper.f (k + 1) a0) := by
 intro a0 k
 unfold impl_ReadHyper.f
 exact o1_ impl_ReadSig.mono
theorem impl_ReadHyper.calls (k : Nat) (a0 : ByteArray) (r1 : Int) (r2 : List ByteArray) (r3 : List ByteArray) (r4 : ByteArray) (r5 : Int) (r6 : List ByteArray) (r7 : List ByteArray) (r8 : Bool) (w : World) (h : impl_ReadHyper.f k a0 = some (r1, r2, r3, r4, r5, r6, r7, r8)) :
  Calls Try.prog 21 #[.string a0] w fun e w' => ∃ v1_ v2_ v5_ v6_ : Value, e = .returned (.tuple #[.agg #[.int .i64 r1, v1_, v2_, .string r4, .int .i64 r5, v5_, v6_], .bool r8]) ∧ Kd.R Kd.string 9 w' w.heap.size (fun k_ => some k_ ≠ (v2_ : Value).ownBlock ∧ some k_ ≠ (v5_ : Value).ownBlock ∧ some k_ ≠ (v6_ : Value).ownBlock) v1_ r2 ∧ Kd.R Kd.string 9 w' w.heap.size (fun k_ => some k_ ≠ (v1_ : Value).ownBlock ∧ some k_ ≠ (v5_ : Value).ownBlock ∧ some k_ ≠ (v6_ : Value).ownBlock) v2_ r3 ∧ Kd.R Kd.string 9 w' w.heap.size (fun k_ => some k_ ≠ (v1_ : Value).ownBlock ∧ some k_ ≠ (v2_ : Value).ownBlock ∧ some k_ ≠ (v6_ : Value).ownBlock) v5_ r6 ∧ Kd.R Kd.string 9 w' w.heap.size (fun k_ => some k_ ≠ (v1_ : Value).ownBlock ∧ some k_ ≠ (v2_ : Value).ownBlock ∧ some k_ ≠ (v5_ : Value).ownBlock) v6_ r7 ∧ Below w.heap.size w w' := by
 have hu39 := Try.underlying39
 have hu37 := Try.underlying37
 have HB := Aside0.mk (Below.refl w.heap.size w)
 delta impl_ReadHyper.f at h
 have H := h
 clear h
 by_cases c2 : (a0.size : Int) = 102
 rotate_left
 ·rw [if_neg c2] at H
  have c2b0 : ((a0.size : Int) == 102) = false := beq_eq_false_iff_ne.mpr c2
  have c2b1 : ((a0.size : Int) != 102) = true := bne_iff_ne.mpr c2
  simp only [Option.some.injEq, Prod.mk.injEq] at H
  obtain ⟨rfl, rfl, rfl, rfl, rfl, rfl, rfl, rfl⟩ := H
  go_enter Try.func21, Try.ntmps21
  go_wp2_with (first | ((with_reducible refine gate_dst (N := 2) rfl ?_); refine box_event ?hg (N := 2) ?hd (cs := #[.int .i64 0, .slice none 0 0, .slice none 0 0, .string (⟨#[]⟩ : ByteArray), .int .i64 0, .slice none 0 0, .slice none 0 0]) (t := 39) ?hr ?_; (case hd => rfl); (case hg => rfl); (case hr => first | (go_simp; done) | (go_simp; rfl)); intro gb564 hg w65 hbox hb; have n_ := b_ (below_step (hB_) hb) <| b_ (hbox) <| b_ (by rw [hg]; exact (below_size (hB_)) : w.heap.size ≤ gb564) <| c_ (by rw [hg]; exact (below_size (hB_)) : w.heap.size ≤ gb564); clear HB; obtain ⟨HB, BK564, GW564, GE564⟩ := n_; clear hb hbox hg; have hcz66_0 : w65.cell? ⟨gb564, 0, none⟩ = some (.int .i64 0) := (blk_cell BK564.out 0).trans rfl; have hcz66_1 : w65.cell? ⟨gb564, 1, none⟩ = some (.slice none 0 0) := (blk_cell BK564.out 1).trans rfl; have hcz66_2 : w65.cell? ⟨gb564, 2, none⟩ = some (.slice none 0 0) := (blk_cell BK564.out 2).trans rfl; have hcz66_3 : w65.cell? ⟨gb564, 3, none⟩ = some (.string (⟨#[]⟩ : ByteArray)) := (blk_cell BK564.out 3).trans rfl; have hcz66_4 : w65.cell? ⟨gb564, 4, none⟩ = some (.int .i64 0) := (blk_cell BK564.out 4).trans rfl; have hcz66_5 : w65.cell? ⟨gb564, 5, none⟩ = some (.slice none 0 0) := (blk_cell BK564.out 5).trans rfl; have hcz66_6 : w65.cell? ⟨gb564, 6, none⟩ = some (.slice none 0 0) := (blk_cell BK564.out 6).trans rfl; have hfz66_0 := blk_frozen BK564.out 0; have hfz66_1 := blk_frozen BK564.out 1; have hfz66_2 := blk_frozen BK564.out 2; have hfz66_3 := blk_frozen BK564.out 3; have hfz66_4 := blk_frozen BK564.out 4; have hfz66_5 := blk_frozen BK564.out 5; have hfz66_6 := blk_frozen BK564.out 6))
  refine bodyPost_ret (results_ct rfl _ _ gb564 39 #[.int .i64 0, .slice none 0 0, .slice none 0 0, .string (⟨#[]⟩ : ByteArray), .int .i64 0, .slice none 0 0, .slice none 0 0] (0, 0) _ rfl (by refine kK_ ?_; refine blk_put (cs := #[.int .i64 0, .slice none 0 0, .slice none 0 0, .string (⟨#[]⟩ : ByteArray), .int .i64 0, .slice none 0 0, .slice none 0 0]) ?_ 6 _ rfl; refine kK_ ?_; refine blk_put (cs := #[.int .i64 0, .slice none 0 0, .slice none 0 0, .string (⟨#[]⟩ : ByteArray), .int .i64 0, .slice none 0 0, .slice none 0 0]) ?_ 5 _ rfl; refine kK_ ?_; refine blk_put (cs := #[.int .i64 0, .slice none 0 0, .slice none 0 0, .string (⟨#[]⟩ : ByteArray), .int .i64 0, .slice none 0 0, .slice none 0 0]) ?_ 4 _ rfl; refine kK_ ?_; refine blk_put (cs := #[.int .i64 0, .slice none 0 0, .slice none 0 0, .string (⟨#[]⟩ : ByteArray), .int .i64 0, .slice none 0 0, .slice none 0 0]) ?_ 3 _ rfl; refine kK_ ?_; refine blk_put (cs := #[.int .i64 0, .slice none 0 0, .slice none 0 0, .string (⟨#[]⟩ : ByteArray), .int .i64 0, .slice none 0 0, .slice none 0 0]) ?_ 2 _ rfl; refine kK_ ?_; refine blk_put (cs := #[.int .i64 0, .slice none 0 0, .slice none 0 0, .string (⟨#[]⟩ : ByteArray), .int .i64 0, .slice none 0 0, .slice none 0 0]) ?_ 1 _ rfl; refine kK_ ?_; refine blk_put (cs := #[.int .i64 0, .slice none 0 0, .slice none 0 0, .string (⟨#[]⟩ : ByteArray), .int .i64 0, .slice none 0 0, .slice none 0 0]) ?_ 0 _ rfl; exact rK_ BK564.out) Try.underlying39 rfl (by kernel_rfl)) rfl ?_
  exact ⟨_, _, _, _, by first | rfl | (simp [errW_none, errW_some] <;> rfl) | (simp [*, errW_none, errW_some] <;> rfl), by first | exact Kd.R_nil _ _ _ _ _ | exact Kd.N_nil _ _ _ _ _ | exact Kd.V_nil _ _ _ _ _ | exact Kd.Q_nil _ _ _ _ _ | exact Kd.S_nil _ _ _ _ _, by first | exact Kd.R_nil _ _ _ _ _ | exact Kd.N_nil _ _ _ _ _ | exact Kd.V_nil _ _ _ _ _ | exact Kd.Q_nil _ _ _ _ _ | exact Kd.S_nil _ _ _ _ _, by first | exact Kd.R_nil _ _ _ _ _ | exact Kd.N_nil _ _ _ _ _ | exact Kd.V_nil _ _ _ _ _ | exact Kd.Q_nil _ _ _ _ _ | exact Kd.S_nil _ _ _ _ _, by first | exact Kd.R_nil _ _ _ _ _ | exact Kd.N_nil _ _ _ _ _ | exact Kd.V_nil _ _ _ _ _ | exact Kd.Q_nil _ _ _ _ _ | exact Kd.S_nil _ _ _ _ _, hS_ GE564.out⟩
 rw [if_pos c2] at H
 have c2b0 : ((a0.size : Int) == 102) = true := beq_iff_eq.mpr c2
 have c2b1 : ((a0.size : Int) != 102) = false := bne_eq_false_iff_eq.mpr c2
 clear c2
 obtain ⟨c3, H⟩ := iN_ H
 have c3b0 := eq_true c3
 have c3b1 := decide_eq_true c3
 clear c3
 obtain ⟨c4, H⟩ := iN_ H
 have c4b0 := eq_true c4
 have c4b1 := decide_eq_true c4
 clear c4
 obtain ⟨⟨t565, t566, t569, t572⟩, A5, H⟩ := bN_ H
 obtain ⟨c6, H⟩ := iN_ H
 have c6b0 := eq_true c6
 have c6b1 := decide_eq_true c6
 clear c6
 obtain ⟨⟨t574, t575, t578, t581⟩, A7, H⟩ := bN_ H
 by_cases c8 : t572 = true
 ·subst c8
  replace H := iT_ H
  by_cases c9 : t581 = true
  ·subst c9
   replace H := iT_ H
   obtain ⟨c10, H⟩ := iN_ H
   have c10b0 := eq_true c10
   have c10b1 := decide_eq_true c10
   clear c10
   have c11b0 := eq_true (of_decide_eq_true (by first | (with_reducible assumption) | assumption) : 53 ≤ (a0.size : Int))
   simp only [Option.some.injEq, Prod.mk.injEq] at H
   obtain ⟨rfl, rfl, rfl, rfl, rfl, rfl, rfl, rfl⟩ := H
   go_enter Try.func21, Try.ntmps21
   try go_wp2_with (first | ((with_reducible refine gate_dst (N := 2) rfl ?_); refine box_event ?hg (N := 2) ?hd (cs := #[.int .i64 0, .slice none 0 0, .slice none 0 0, .string (⟨#[]⟩ : ByteArray), .int .i64 0, .slice none 0 0, .slice none 0 0]) (t := 39) ?hr ?_; (case hd => rfl); (case hg => rfl); (case hr => first | (go_simp; done) | (go_simp; rfl)); intro gb564 hg w12 hbox hb; have n_ := b_ (below_step (hB_) hb) <| b_ (hbox) <| b_ (by rw [hg]; exact (below_size (hB_)) : w.heap.size ≤ gb564) <| c_ (by rw [hg]; exact (below_size (hB_)) : w.heap.size ≤ gb564); clear HB; obtain ⟨HB, BK564, GW564, GE564⟩ := n_; clear hb hbox hg) | ((with_reducible refine gate_callee (f := 45) rfl ?_); refine goesL_ (some 15) rfl rfl Try.func45 (by kernel_rfl) rfl #[.string (a0.extract 0 49)] rfl aM_ ?_; (with_reducible refine (impl_ReadSig.calls k (a0.extract 0 49) t565 t566 t569 true _ A5.out).mono ?_); rintro e w13 ⟨v567, v570, rfl, ho0, ho1, hb⟩; refine ⟨_, rfl, ?_⟩; have n_ := b_ (Kd.R_lower ho0 (below_size (hS_ GE564.out))) <| b_ (Kd.R_lower ho1 (below_size (hS_ GE564.out))) <| b_ (blk_below (g := gb564) (o := .cells #[.int .i64 0, .slice none 0 0, .slice none 0 0, .string (⟨#[]⟩ : ByteArray), .int .i64 0, .slice none 0 0, .slice none 0 0] 39 (0, 0)) (rK_ BK564.out) hb) <| c_ (below_step (hS_ GE564.out) hb); clear BK564 HB; obtain ⟨HO568, HO571, BK564, HB⟩ := n_; (try clear ho1)) | ((with_reducible refine gate_dst (N := 4) rfl ?_); refine box_event ?hg (N := 4) ?hd (cs := #[.int .i64 0, .slice none 0 0, .slice none 0 0]) (t := 37) ?hr ?_; (case hd => rfl); (case hg => rfl); (case hr => first | (go_simp; done) | (go_simp; rfl)); intro gb573 hg w14 hbox hb; have n_ := b_ (Kd.R_below (rR_ HO568.out) hb) <| b_ (Kd.R_below (rR_ HO571.out) hb) <| b_ (blk_below (g := gb564) (o := .cells #[.int .i64 0, .slice none 0 0, .slice none 0 0, .string (⟨#[]⟩ : ByteArray), .int .i64 0, .slice none 0 0, .slice none 0 0] 39 (0, 0)) (rK_ BK564.out) hb) <| b_ (below_step (hS_ GE564.out) hb) <| b_ (hbox) <| b_ (by rw [hg]; exact (below_size (hS_ GE564.out)) : w.heap.size ≤ gb573) <| b_ (by rw [hg]; exact (below_size (hS_ GE564.out)) : w.heap.size ≤ gb573) <| b_ (by rw [hg]; exact Nat.ne_of_lt (blk_lt (g := gb564) (o := .cells #[.int .i64 0, .slice none 0 0, .slice none 0 0, .string (⟨#[]⟩ : ByteArray), .int .i64 0, .slice none 0 0, .slice none 0 0] 39 (0, 0)) (rK_ BK564.out)) : gb564 ≠ gb573) <| c_ (by rw [hg]; exact Nat.ne_of_gt (blk_lt (g := gb564) (o := .cells #[.int .i64 0, .slice none 0 0, .slice none 0 0, .string (⟨#[]⟩ : ByteArray), .int .i64 0, .slice none 0 0, .slice none 0 0] 39 (0, 0)) (rK_ BK564.out)) : gb573 ≠ gb564); clear HO568 HO571 BK564 HB; obtain ⟨HO568, HO571, BK564, HB, BK573, GW573, GE573, NB564_573, NB573_564⟩ := n_; clear hb hbox hg; have hnb15 := NB573_564.out; have hnc15 := NB564_573.out; have hcz16_0 : w14.cell? ⟨gb573, 0, none⟩ = some (.int .i64 0) := (blk_cell BK573.out 0).trans rfl; have hcz16_1 : w14.cell? ⟨gb573, 1, none⟩ = some (.slice none 0 0) := (blk_cell BK573.out 1).trans rfl; have hcz16_2 : w14.cell? ⟨gb573, 2, none⟩ = some (.slice none 0 0) := (blk_cell BK573.out 2).trans rfl; have hfz16_0 := blk_frozen BK573.out 0; have hfz16_1 := blk_frozen BK573.out 1; have hfz16_2 := blk_frozen BK573.out 2; obtain ⟨Ao17, co17, eo17⟩ := Kd.R_slice HO568.out; subst eo17; obtain ⟨Ao18, co18, eo18⟩ := Kd.R_slice HO571.out; subst eo18) | ((with_reducible refine gate_callee (f := 45) rfl ?_); refine goesL_ (some 21) rfl rfl Try.func45 (by kernel_rfl) rfl #[.string (a0.extract 53 a0.size)] rfl aM_ ?_; (with_reducible refine (impl_ReadSig.calls k (a0.extract 53 a0.size) t574 t575 t578 true _ A7.out).mono ?_); rintro e w19 ⟨v576, v579, rfl, ho0, ho1, hb⟩; refine ⟨_, rfl, ?_⟩; have n_ := b_ (Kd.R_mono (Kd.R_told (Kd.R_told (Kd.R_old (by refine kR_ ?_; exact (Kd.R_mono (Kd.R_far (Kd.R_far (Kd.R_far (Kd.R_types HO568.out BK573.out (by decide)) (fun _ hk => hk.2) _) (fun _ hk => hk.2) _) (fun _ hk => hk.2) _) (fun _ h_ => h_.1))) hb) (Kd.R_base ho0)) (Kd.R_base ho1)) (fun _ h_ => h_.1)) <| b_ (Kd.R_mono (Kd.R_told (Kd.R_told (Kd.R_old (by refine kR_ ?_; exact (Kd.R_mono (Kd.R_far (Kd.R_far (Kd.R_far (Kd.R_types HO571.out BK573.out (by decide)) (fun _ hk => hk.2) _) (fun _ hk => hk.2) _) (fun _ hk => hk.2) _) (fun _ h_ => h_.1))) hb) (Kd.R_base ho0)) (Kd.R_base ho1)) (fun _ h_ => h_.1)) <| b_ (Kd.R_lower (Kd.R_new' (Kd.R_new' ho0 (Kd.R_lt (by refine kR_ ?_; exact (Kd.R_mono (Kd.R_far (Kd.R_far (Kd.R_far (Kd.R_types HO568.out BK573.out (by decide)) (fun _ hk => hk.2) _) (fun _ hk => hk.2) _) (fun _ hk => hk.2) _) (fun _ h_ => h_.1))))) (Kd.R_lt (by refine kR_ ?_; exact (Kd.R_mono (Kd.R_far (Kd.R_far (Kd.R_far (Kd.R_types HO571.out BK573.out (by decide)) (fun _ hk => hk.2) _) (fun _ hk => hk.2) _) (fun _ hk => hk.2) _) (fun _ h_ => h_.1))))) (below_size ((u4_ GE564.out GE573.out)))) <| b_ (Kd.R_lower (Kd.R_new' (Kd.R_new' ho1 (Kd.R_lt (by refine kR_ ?_; exact (Kd.R_mono (Kd.R_far (Kd.R_far (Kd.R_far (Kd.R_types HO568.out BK573.out (by decide)) (fun _ hk => hk.2) _) (fun _ hk => hk.2) _) (fun _ hk => hk.2) _) (fun _ h_ => h_.1))))) (Kd.R_lt (by refine kR_ ?_; exact (Kd.R_mono (Kd.R_far (Kd.R_far (Kd.R_far (Kd.R_types HO571.out BK573.out (by decide)) (fun _ hk => hk.2) _) (fun _ hk => hk.2) _) (fun _ hk => hk.2) _) (fun _ h_ => h_.1))))) (below_size ((u4_ GE564.out GE573.out)))) <| b_ (blk_below (g := gb564) (o := .cells #[.int .i64 0, .slice none 0 0, .slice none 0 0, .string (⟨#[]⟩ : ByteArray), .int .i64 0, .slice none 0 0, .slice none 0 0] 39 (0, 0)) (by refine kK_ ?_; refine blk_far ?_ NB564_573.out _; refine kK_ ?_; refine blk_far ?_ NB564_573.out _; refine kK_ ?_; refine blk_far ?_ NB564_573.out _; exact rK_ BK564.out) hb) <| b_ (blk_below (g := gb573) (o := .cells #[.int .i64 t565, .slice Ao17 t566.length co17, .slice Ao18 t569.length co18] 37 (0, 0)) (by refine kK_ ?_; refine blk_put (cs := #[.int .i64 t565, .slice Ao17 t566.length co17, .slice none 0 0]) ?_ 2 _ rfl; refine kK_ ?_; refine blk_put (cs := #[.int .i64 t565, .slice none 0 0, .slice none 0 0]) ?_ 1 _ rfl; refine kK_ ?_; refine blk_put (cs := #[.int .i64 0, .slice none 0 0, .slice none 0 0]) ?_ 0 _ rfl; exact rK_ BK573.out) hb) <| c_ (below_step ((u4_ GE564.out GE573.out)) hb); clear HO568 HO571 BK564 BK573 HB; obtain ⟨HO568, HO571, HO577, HO580, BK564, BK573, HB⟩ := n_; (try clear ho1)) | ((with_reducible refine gate_dst (N := 6) rfl ?_); refine box_event ?hg (N := 6) ?hd (cs := #[.int .i64 0, .slice none 0 0, .slice none 0 0]) (t := 37) ?hr ?_; (case hd => rfl); (case hg => rfl); (case hr => first | (go_simp; done) | (go_simp; rfl)); intro gb582 hg w20 hbox hb; have n_ := b_ (Kd.R_below (rR_ HO568.out) hb) <| b_ (Kd.R_below (rR_ HO571.out) hb) <| b_ (Kd.R_below (rR_ HO577.out) hb) <| b_ (Kd.R_below (rR_ HO580.out) hb) <| b_ (blk_below (g := gb564) (o := .cells #[.int .i64 0, .slice none 0 0, .slice none 0 0, .string (⟨#[]⟩ : ByteArray), .int .i64 0, .slice none 0 0, .slice none 0 0] 39 (0, 0)) (rK_ BK564.out) hb) <| b_ (blk_below (g := gb573) (o := .cells #[.int .i64 t565, .slice Ao17 t566.length co17, .slice Ao18 t569.length co18] 37 (0, 0)) (rK_ BK573.out) hb) <| b_ (below_step ((u4_ GE564.out GE573.out)) hb) <| b_ (hbox) <| b_ (by rw [hg]; exact (below_size ((u4_ GE564.out GE573.out))) : w.heap.size ≤ gb582) <| b_ (by rw [hg]; exact (below_size ((u4_ GE564.out GE573.out))) : w.heap.size ≤ gb582) <| b_ (by rw [hg]; exact Nat.ne_of_lt (blk_lt (g := gb564) (o := .cells #[.int .i64 0, .slice none 0 0, .slice none 0 0, .string (⟨#[]⟩ : ByteArray), .int .i64 0, .slice none 0 0, .slice none 0 0] 39 (0, 0)) (rK_ BK564.out)) : gb564 ≠ gb582) <| b_ (by rw [hg]; exact Nat.ne_of_gt (blk_lt (g := gb564) (o := .cells #[.int .i64 0, .slice none 0 0, .slice none 0 0, .string (⟨#[]⟩ : ByteArray), .int .i64 0, .slice none 0 0, .slice none 0 0] 39 (0, 0)) (rK_ BK564.out)) : gb582 ≠ gb564) <| b_ (by rw [hg]; exact Nat.ne_of_lt (blk_lt (g := gb573) (o := .cells #[.int .i64 t565, .slice Ao17 t566.length co17, .slice Ao18 t569.length co18] 37 (0, 0)) (rK_ BK573.out)) : gb573 ≠ gb582) <| c_ (by rw [hg]; exact Nat.ne_of_gt (blk_lt (g := gb573) (o := .cells #[.int .i64 t565, .slice Ao17 t566.length co17, .slice Ao18 t569.length co18] 37 (0, 0)) (rK_ BK573.out)) : gb582 ≠ gb573); clear HO568 HO571 HO577 HO580 BK564 BK573 HB; obtain ⟨HO568, HO571, HO577, HO580, BK564, BK573, HB, BK582, GW582, GE582, NB564_582, NB582_564, NB573_582, NB582_573⟩ := n_; clear hb hbox hg; have hnb21 := NB582_564.out; have hnc21 := NB564_582.out; have hnb22 := NB582_573.out; have hnc22 := NB573_582.out; have hcz23_0 : w20.cell? ⟨gb582, 0, none⟩ = some (.int .i64 0) := (blk_cell BK582.out 0).trans rfl; have hcz23_1 : w20.cell? ⟨gb582, 1, none⟩ = some (.slice none 0 0) := (blk_cell BK582.out 1).trans rfl; have hcz23_2 : w20.cell? ⟨gb582, 2, none⟩ = some (.slice none 0 0) := (blk_cell BK582.out 2).trans rfl; have hfz23_0 := blk_frozen BK582.out 0; have hfz23_1 := blk_frozen BK582.out 1; have hfz23_2 := blk_frozen BK582.out 2; obtain ⟨Ao24, co24, eo24⟩ := Kd.R_slice HO577.out; subst eo24; obtain ⟨Ao25, co25, eo25⟩ := Kd.R_slice HO580.out; subst eo25))
   have n_ := b_ (show Kd.R Kd.string 9 (((w20.setCell ⟨gb582, 0, none⟩ (.int .i64 t574)).setCell ⟨gb582, 1, none⟩ (.slice Ao24 t575.length co24)).setCell ⟨gb582, 2, none⟩ (.slice Ao25 t578.length co25)) w.heap.size (fun k_ => some k_ ≠ (.slice Ao18 t569.length co18 : Value).ownBlock ∧ some k_ ≠ (.slice Ao24 t575.length co24 : Value).ownBlock ∧ some k_ ≠ (.slice Ao25 t578.length co25 : Value).ownBlock) (.slice Ao17 t566.length co17) t566 from by refine kR_ ?_; exact Kd.R_mono (Kd.R_far (Kd.R_far (Kd.R_far (Kd.R_types HO568.out BK582.out (by decide)) (fun _ hk => hk.2) _) (fun _ hk => hk.2) _) (fun _ hk => hk.2) _) (fun _ hk => ⟨hk.1.1.1, ⟨hk.1.1.2, hk.1.2⟩⟩)) <| b_ (show Kd.R Kd.string 9 (((w20.setCell ⟨gb582, 0, none⟩ (.int .i64 t574)).setCell ⟨gb582, 1, none⟩ (.slice Ao24 t575.length co24)).setCell ⟨gb582, 2, none⟩ (.slice Ao25 t578.length co25)) w.heap.size (fun k_ => some k_ ≠ (.slice Ao17 t566.length co17 : Value).ownBlock ∧ some k_ ≠ (.slice Ao24 t575.length co24 : Value).ownBlock ∧ some k_ ≠ (.slice Ao25 t578.length co25 : Value).ownBlock) (.slice Ao18 t569.length co18) t569 from by refine kR_ ?_; exact Kd.R_mono (Kd.R_far (Kd.R_far (Kd.R_far (Kd.R_types HO571.out BK582.out (by decide)) (fun _ hk => hk.2) _) (fun _ hk => hk.2) _) (fun _ hk => hk.2) _) (fun _ hk => ⟨hk.1.1.1, ⟨hk.1.1.2, hk.1.2⟩⟩)) <| b_ (show Kd.R Kd.string 9 (((w20.setCell ⟨gb582, 0, none⟩ (.int .i64 t574)).setCell ⟨gb582, 1, none⟩ (.slice Ao24 t575.length co24)).setCell ⟨gb582, 2, none⟩ (.slice Ao25 t578.length co25)) w.heap.size (fun k_ => some k_ ≠ (.slice Ao17 t566.length co17 : Value).ownBlock ∧ some k_ ≠ (.slice Ao18 t569.length co18 : Value).ownBlock ∧ some k_ ≠ (.slice Ao25 t578.length co25 : Value).ownBlock) (.slice Ao24 t575.length co24) t575 from by refine kR_ ?_; exact Kd.R_mono (Kd.R_far (Kd.R_far (Kd.R_far (Kd.R_types HO577.out BK582.out (by decide)) (fun _ hk => hk.2) _) (fun _ hk => hk.2) _) (fun _ hk => hk.2) _) (fun _ hk => ⟨hk.1.1.2, ⟨hk.1.2, hk.1.1.1⟩⟩)) <| b_ (show Kd.R Kd.string 9 (((w20.setCell ⟨gb582, 0, none⟩ (.int .i64 t574)).setCell ⟨gb582, 1, none⟩ (.slice Ao24 t575.length co24)).setCell ⟨gb582, 2, none⟩ (.slice Ao25 t578.length co25)) w.heap.size (fun k_ => some k_ ≠ (.slice Ao17 t566.length co17 : Value).ownBlock ∧ some k_ ≠ (.slice Ao18 t569.length co18 : Value).ownBlock ∧ some k_ ≠ (.slice Ao24 t575.length co24 : Value).ownBlock) (.slice Ao25 t578.length co25) t578 from by refine kR_ ?_; exact Kd.R_mono (Kd.R_far (Kd.R_far (Kd.R_far (Kd.R_types HO580.out BK582.out (by decide)) (fun _ hk => hk.2) _) (fun _ hk => hk.2) _) (fun _ hk => hk.2) _) (fun _ hk => ⟨hk.1.1.2, ⟨hk.1.2, hk.1.1.1⟩⟩)) <| b_ (show (((w20.setCell ⟨gb582, 0, none⟩ (.int .i64 t574)).setCell ⟨gb582, 1, none⟩ (.slice Ao24 t575.length co24)).setCell ⟨gb582, 2, none⟩ (.slice Ao25 t578.length co25)).heap[gb564]? = some (.cells #[.int .i64 0, .slice none 0 0, .slice none 0 0, .string (⟨#[]⟩ : ByteArray), .int .i64 0, .slice none 0 0, .slice none 0 0] 39 (0, 0)) from by refine kK_ ?_; refine blk_far ?_ NB564_582.out _; refine kK_ ?_; refine blk_far ?_ NB564_582.out _; refine kK_ ?_; refine blk_far ?_ NB564_582.out _; refine kK_ ?_; exact BK564.out) <| b_ (show (((w20.setCell ⟨gb582, 0, none⟩ (.int .i64 t574)).setCell ⟨gb582, 1, none⟩ (.slice Ao24 t575.length co24)).setCell ⟨gb582, 2, none⟩ (.slice Ao25 t578.length co25)).heap[gb573]? = some (.cells #[.int .i64 t565, .slice Ao17 t566.length co17, .slice Ao18 t569.length co18] 37 (0, 0)) from by refine kK_ ?_; refine blk_far ?_ NB573_582.out _; refine kK_ ?_; refine blk_far ?_ NB573_582.out _; refine kK_ ?_; refine blk_far ?_ NB573_582.out _; refine kK_ ?_; exact BK573.out) <| b_ (show (((w20.setCell ⟨gb582, 0, none⟩ (.int .i64 t574)).setCell ⟨gb582, 1, none⟩ (.slice Ao24 t575.length co24)).setCell ⟨gb582, 2, none⟩ (.slice Ao25 t578.length co25)).heap[gb582]? = some (.cells #[.int .i64 t574, .slice Ao24 t575.length co24, .slice Ao25 t578.length co25] 37 (0, 0)) from by refine kK_ ?_; refine blk_put (cs := #[.int .i64 t574, .slice Ao24 t575.length co24, .slice none 0 0]) ?_ 2 _ rfl; refine kK_ ?_; refine blk_put (cs := #[.int .i64 t574, .slice none 0 0, .slice none 0 0]) ?_ 1 _ rfl; refine kK_ ?_; refine blk_put (cs := #[.int .i64 0, .slice none 0 0, .slice none 0 0]) ?_ 0 _ rfl; refine kK_ ?_; exact BK582.out) <| c_ (show Below w.heap.size w (((w20.setCell ⟨gb582, 0, none⟩ (.int .i64 t574)).setCell ⟨gb582, 1, none⟩ (.slice Ao24 t575.length co24)).setCell ⟨gb582, 2, none⟩ (.slice Ao25 t578.length co25)) from (u9_ GE564.out GE573.out GE582.out))
   clear HO568 HO571 HO577 HO580 BK564 BK573 BK582 HB
   generalize (((w20.setCell ⟨gb582, 0, none⟩ (.int .i64 t574)).setCell ⟨gb582, 1, none⟩ (.slice Ao24 t575.length co24)).setCell ⟨gb582, 2, none⟩ (.slice Ao25 t578.length co25)) = w26 at n_ ⊢
   obtain ⟨HO568, HO571, HO577, HO580, BK564, BK573, BK582, HB⟩ := n_
   have n_ := b_ (Kd.R_drew HO568.out) <| b_ (Kd.R_drew HO571.out) <| b_ (Kd.R_drew HO577.out) <| b_ (Kd.R_drew HO580.out) <| b_ (blk_drew BK564.out) <| b_ (blk_drew BK573.out) <| b_ (blk_drew BK582.out) <| c_ (below_drew1 HB.out)
   clear HO568 HO571 HO577 HO580 BK564 BK573 BK582 HB
   obtain ⟨HO568, HO571, HO577, HO580, BK564, BK573, BK582, HB⟩ := n_
   refine start_ (n := 7) (S := fun w' => w'.cell? ⟨gb573, 0, none⟩ = some (.int .i64 t565) ∧ w'.cell? ⟨gb573, 1, none⟩ = some (.slice Ao17 t566.length co17) ∧ w'.cell? ⟨gb573, 2, none⟩ = some (.slice Ao18 t569.length co18) ∧ w'.cell? ⟨gb582, 0, none⟩ = some (.int .i64 t574) ∧ w'.cell? ⟨gb582, 1, none⟩ = some (.slice Ao24 t575.length co24) ∧ w'.cell? ⟨gb582, 2, none⟩ = some (.slice Ao25 t578.length co25)) (ds := []) (bb_ 7 0) (by kernel_rfl) rfl rfl ⟨(blk_cell BK573.out 0).trans rfl, (blk_cell BK573.out 1).trans rfl, (blk_cell BK573.out 2).trans rfl, (blk_cell BK582.out 0).trans rfl, (blk_cell BK582.out 1).trans rfl, (blk_cell BK582.out 2).trans rfl⟩ (fun hHeld => ?_)
   generalize w26.drew = w27 at HO568 HO571 HO577 HO580 BK564 BK573 BK582 HB hHeld ⊢
   refine pB_ 1 32 (bb_ 7 2) ?_
   refine pB_ 2 33 (bb_ 7 6) ?_
   refine tS_ 0 31 (bb_ 7 7) (by kernel_rfl) hHeld ?_
   refine tS_ 3 34 (bb_ 7 15) (by kernel_rfl) hHeld ?_
   refine pB_ 4 35 (bb_ 7 31) ?_
   refine one_ (i := 5) (N := none) (bb_ 7 63) rfl rfl (by kernel_rfl) (by decide) (fun K hK => ?_)
   have hs28 : w27.cell? ⟨gb564, 0, none⟩ = some (.int .i64 0) := (blk_cell BK564.out 0).trans rfl
   have hfs28 := blk_frozen BK564.out 0
   have hns28_1 := NB573_564.out
   have hns28_2 := NB582_564.out
   have hms28_1 := NB564_573.out
   have hms28_2 := NB564_582.out
   have hs29 : w27.cell? ⟨gb564, 1, none⟩ = some (.slice none 0 0) := (blk_cell BK564.out 1).trans rfl
   have hfs29 := blk_frozen BK564.out 1
   have hns29_1 := NB573_564.out
   have hns29_2 := NB582_564.out
   have hms29_1 := NB564_573.out
   have hms29_2 := NB564_582.out
   have hs30 : w27.cell? ⟨gb564, 2, none⟩ = some (.slice none 0 0) := (blk_cell BK564.out 2).trans rfl
   have hfs30 := blk_frozen BK564.out 2
   have hns30_1 := NB573_564.out
   have hns30_2 := NB582_564.out
   have hms30_1 := NB564_573.out
   have hms30_2 := NB564_582.out
   have hs31 : w27.cell? ⟨gb564, 3, none⟩ = some (.string (⟨#[]⟩ : ByteArray)) := (blk_cell BK564.out 3).trans rfl
   have hfs31 := blk_frozen BK564.out 3
   have hns31_1 := NB573_564.out
   have hns31_2 := NB582_564.out
   have hms31_1 := NB564_573.out
   have hms31_2 := NB564_582.out
   have hs32 : w27.cell? ⟨gb564, 4, none⟩ = some (.int .i64 0) := (blk_cell BK564.out 4).trans rfl
   have hfs32 := blk_frozen BK564.out 4
   have hns32_1 := NB573_564.out
   have hns32_2 := NB582_564.out
   have hms32_1 := NB564_573.out
   have hms32_2 := NB564_582.out
   have hs33 : w27.cell? ⟨gb564, 5, none⟩ = some (.slice none 0 0) := (blk_cell BK564.out 5).trans rfl
   have hfs33 := blk_frozen BK564.out 5
   have hns33_1 := NB573_564.out
   have hns33_2 := NB582_564.out
   have hms33_1 := NB564_573.out
   have hms33_2 := NB564_582.out
   have hs34 : w27.cell? ⟨gb564, 6, none⟩ = some (.slice none 0 0) := (blk_cell BK564.out 6).trans rfl
   have hfs34 := blk_frozen BK564.out 6
   have hns34_1 := NB573_564.out
   have hns34_2 := NB582_564.out
   have hms34_1 := NB564_573.out
   have hms34_2 := NB564_582.out
   refine skip_ (w1 := ?_) (by rfl) rfl ?_ ?_
   rotate_left
   ·go_simp
    rfl
   refine hK.out _ _ ⟨((cell_far (p := ⟨gb564, _, none⟩) NB573_564.out _).trans (((cell_far (p := ⟨gb564, _, none⟩) NB573_564.out _).trans (((cell_far (p := ⟨gb564, _, none⟩) NB573_564.out _).trans (((cell_far (p := ⟨gb564, _, none⟩) NB573_564.out _).trans (((cell_far (p := ⟨gb564, _, none⟩) NB573_564.out _).trans (((cell_far (p := ⟨gb564, _, none⟩) NB573_564.out _).trans (((cell_far (p := ⟨gb564, _, none⟩) NB573_564.out _).trans (hHeld.1)))))))))))))), ((cell_far (p := ⟨gb564, _, none⟩) NB573_564.out _).trans (((cell_far (p := ⟨gb564, _, none⟩) NB573_564.out _).trans (((cell_far (p := ⟨gb564, _, none⟩) NB573_564.out _).trans (((cell_far (p := ⟨gb564, _, none⟩) NB573_564.out _).trans (((cell_far (p := ⟨gb564, _, none⟩) NB573_564.out _).trans (((cell_far (p := ⟨gb564, _, none⟩) NB573_564.out _).trans (((cell_far (p := ⟨gb564, _, none⟩) NB573_564.out _).trans (hHeld.2.1)))))))))))))), ((cell_far (p := ⟨gb564, _, none⟩) NB573_564.out _).trans (((cell_far (p := ⟨gb564, _, none⟩) NB573_564.out _).trans (((cell_far (p := ⟨gb564, _, none⟩) NB573_564.out _).trans (((cell_far (p := ⟨gb564, _, none⟩) NB573_564.out _).trans (((cell_far (p := ⟨gb564, _, none⟩) NB573_564.out _).trans (((cell_far (p := ⟨gb564, _, none⟩) NB573_564.out _).trans (((cell_far (p := ⟨gb564, _, none⟩) NB573_564.out _).trans (hHeld.2.2.1)))))))))))))), ((cell_far (p := ⟨gb564, _, none⟩) NB582_564.out _).trans (((cell_far (p := ⟨gb564, _, none⟩) NB582_564.out _).trans (((cell_far (p := ⟨gb564, _, none⟩) NB582_564.out _).trans (((cell_far (p := ⟨gb564, _, none⟩) NB582_564.out _).trans (((cell_far (p := ⟨gb564, _, none⟩) NB582_564.out _).trans (((cell_far (p := ⟨gb564, _, none⟩) NB582_564.out _).trans (((cell_far (p := ⟨gb564, _, none⟩) NB582_564.out _).trans (hHeld.2.2.2.1)))))))))))))), ((cell_far (p := ⟨gb564, _, none⟩) NB582_564.out _).trans (((cell_far (p := ⟨gb564, _, none⟩) NB582_564.out _).trans (((cell_far (p := ⟨gb564, _, none⟩) NB582_564.out _).trans (((cell_far (p := ⟨gb564, _, none⟩) NB582_564.out _).trans (((cell_far (p := ⟨gb564, _, none⟩) NB582_564.out _).trans (((cell_far (p := ⟨gb564, _, none⟩) NB582_564.out _).trans (((cell_far (p := ⟨gb564, _, none⟩) NB582_564.out _).trans (hHeld.2.2.2.2.1)))))))))))))), ((cell_far (p := ⟨gb564, _, none⟩) NB582_564.out _).trans (((cell_far (p := ⟨gb564, _, none⟩) NB582_564.out _).trans (((cell_far (p := ⟨gb564, _, none⟩) NB582_564.out _).trans (((cell_far (p := ⟨gb564, _, none⟩) NB582_564.out _).trans (((cell_far (p := ⟨gb564, _, none⟩) NB582_564.out _).trans (((cell_far (p := ⟨gb564, _, none⟩) NB582_564.out _).trans (((cell_far (p := ⟨gb564, _, none⟩) NB582_564.out _).trans (hHeld.2.2.2.2.2))))))))))))))⟩ (fun hHeld => ?_)
   clear hK K
   refine pB_ 6 3 (bb_ 7 127) ?_
   refine done_ (by kernel_rfl) ?_
   try go_wp2
   refine bodyPost_ret (results_ct rfl _ _ gb564 39 #[.int .i64 t565, .slice Ao17 t566.length co17, .slice Ao18 t569.length co18, .string (a0.extract 49 53), .int .i64 t574, .slice Ao24 t575.length co24, .slice Ao25 t578.length co25] (0, 0) _ rfl (by refine kK_ ?_; refine blk_put (cs := #[.int .i64 t565, .slice Ao17 t566.length co17, .slice Ao18 t569.length co18, .string (a0.extract 49 53), .int .i64 t574, .slice Ao24 t575.length co24, .slice none 0 0]) ?_ 6 _ rfl; refine kK_ ?_; refine blk_put (cs := #[.int .i64 t565, .slice Ao17 t566.length co17, .slice Ao18 t569.length co18, .string (a0.extract 49 53), .int .i64 t574, .slice none 0 0, .slice none 0 0]) ?_ 5 _ rfl; refine kK_ ?_; refine blk_put (cs := #[.int .i64 t565, .slice Ao17 t566.length co17, .slice Ao18 t569.length co18, .string (a0.extract 49 53), .int .i64 0, .slice none 0 0, .slice none 0 0]) ?_ 4 _ rfl; refine kK_ ?_; refine blk_put (cs := #[.int .i64 t565, .slice Ao17 t566.length co17, .slice Ao18 t569.length co18, .string (⟨#[]⟩ : ByteArray), .int .i64 0, .slice none 0 0, .slice none 0 0]) ?_ 3 _ rfl; refine kK_ ?_; refine blk_put (cs := #[.int .i64 t565, .slice Ao17 t566.length co17, .slice none 0 0, .string (⟨#[]⟩ : ByteArray), .int .i64 0, .slice none 0 0, .slice none 0 0]) ?_ 2 _ rfl; refine kK_ ?_; refine blk_put (cs := #[.int .i64 t565, .slice none 0 0, .slice none 0 0, .string (⟨#[]⟩ : ByteArray), .int .i64 0, .slice none 0 0, .slice none 0 0]) ?_ 1 _ rfl; refine kK_ ?_; refine blk_put (cs := #[.int .i64 0, .slice none 0 0, .slice none 0 0, .string (⟨#[]⟩ : ByteArray), .int .i64 0, .slice none 0 0, .slice none 0 0]) ?_ 0 _ rfl; exact rK_ BK564.out) Try.underlying39 rfl (by kernel_rfl)) rfl ?_
   exact ⟨_, _, _, _, by first | rfl | (simp [errW_none, errW_some] <;> rfl) | (simp [*, errW_none, errW_some] <;> rfl), by refine kR_ ?_; exact Kd.R_mono (Kd.R_far (Kd.R_far (Kd.R_far (Kd.R_far (Kd.R_far (Kd.R_far (Kd.R_far (Kd.R_types HO568.out BK564.out (by decide)) (fun _ hk => hk.2) _) (fun _ hk => hk.2) _) (fun _ hk => hk.2) _) (fun _ hk => hk.2) _) (fun _ hk => hk.2) _) (fun _ hk => hk.2) _) (fun _ hk => hk.2) _) (fun _ hk => ⟨hk.1.1, ⟨hk.1.2.1, hk.1.2.2⟩⟩), by refine kR_ ?_; exact Kd.R_mono (Kd.R_far (Kd.R_far (Kd.R_far (Kd.R_far (Kd.R_far (Kd.R_far (Kd.R_far (Kd.R_types HO571.out BK564.out (by decide)) (fun _ hk => hk.2) _) (fun _ hk => hk.2) _) (fun _ hk => hk.2) _) (fun _ hk => hk.2) _) (fun _ hk => hk.2) _) (fun _ hk => hk.2) _) (fun _ hk => hk.2) _) (fun _ hk => ⟨hk.1.1, ⟨hk.1.2.1, hk.1.2.2⟩⟩), by refine kR_ ?_; exact Kd.R_mono (Kd.R_far (Kd.R_far (Kd.R_far (Kd.R_far (Kd.R_far (Kd.R_far (Kd.R_far (Kd.R_types HO577.out BK564.out (by decide)) (fun _ hk => hk.2) _) (fun _ hk => hk.2) _) (fun _ hk => hk.2) _) (fun _ hk => hk.2) _) (fun _ hk => hk.2) _) (fun _ hk => hk.2) _) (fun _ hk => hk.2) _) (fun _ hk => ⟨hk.1.1, ⟨hk.1.2.1, hk.1.2.2⟩⟩), by refine kR_ ?_; exact Kd.R_mono (Kd.R_far (Kd.R_far (Kd.R_far (Kd.R_far (Kd.R_far (Kd.R_far (Kd.R_far (Kd.R_types HO580.out BK564.out (by decide)) (fun _ hk => hk.2) _) (fun _ hk => hk.2) _) (fun _ hk => hk.2) _) (fun _ hk => hk.2) _) (fun _ hk => hk.2) _) (fun _ hk => hk.2) _) (fun _ hk => hk.2) _) (fun _ hk => ⟨hk.1.1, ⟨hk.1.2.1, hk.1.2.2⟩⟩), (u9_ GE564.out GE573.out GE582.out)⟩
  ·replace c9 := Bool.eq_false_iff.mpr c9
   subst c9
   replace H := iF_ H
   simp only [Option.some.injEq, Prod.mk.injEq] at H
   obtain ⟨rfl, rfl, rfl, rfl, rfl, rfl, rfl, rfl⟩ := H
   go_enter Try.func21, Try.ntmps21
   go_wp2_with (first | ((with_reducible refine gate_dst (N := 2) rfl ?_); refine box_event ?hg (N := 2) ?hd (cs := #[.int .i64 0, .slice none 0 0, .slice none 0 0, .string (⟨#[]⟩ : ByteArray), .int .i64 0, .slice none 0 0, .slice none 0 0]) (t := 39) ?hr ?_; (case hd => rfl); (case hg => rfl); (case hr => first | (go_simp; done) | (go_simp; rfl)); intro gb564 hg w35 hbox hb; have n_ := b_ (below_step (hB_) hb) <| b_ (hbox) <| b_ (by rw [hg]; exact (below_size (hB_)) : w.heap.size ≤ gb564) <| c_ (by rw [hg]; exact (below_size (hB_)) : w.heap.size ≤ gb564); clear HB; obtain ⟨HB, BK564, GW564, GE564⟩ := n_; clear hb hbox hg) | ((with_reducible refine gate_callee (f := 45) rfl ?_); refine goesL_ (some 15) rfl rfl Try.func45 (by kernel_rfl) rfl #[.string (a0.extract 0 49)] rfl aM_ ?_; (with_reducible refine (impl_ReadSig.calls k (a0.extract 0 49) t565 t566 t569 true _ A5.out).mono ?_); rintro e w36 ⟨v567, v570, rfl, ho0, ho1, hb⟩; refine ⟨_, rfl, ?_⟩; have n_ := b_ (Kd.R_lower ho0 (below_size (hS_ GE564.out))) <| b_ (Kd.R_lower ho1 (below_size (hS_ GE564.out))) <| b_ (blk_below (g := gb564) (o := .cells #[.int .i64 0, .slice none 0 0, .slice none 0 0, .string (⟨#[]⟩ : ByteArray), .int .i64 0, .slice none 0 0, .slice none 0 0] 39 (0, 0)) (rK_ BK564.out) hb) <| c_ (below_step (hS_ GE564.out) hb); clear BK564 HB; obtain ⟨HO568, HO571, BK564, HB⟩ := n_; (try clear ho1)) | ((with_reducible refine gate_dst (N := 4) rfl ?_); refine box_event ?hg (N := 4) ?hd (cs := #[.int .i64 0, .slice none 0 0, .slice none 0 0]) (t := 37) ?hr ?_; (case hd => rfl); (case hg => rfl); (case hr => first | (go_simp; done) | (go_simp; rfl)); intro gb573 hg w37 hbox hb; have n_ := b_ (Kd.R_below (rR_ HO568.out) hb) <| b_ (Kd.R_below (rR_ HO571.out) hb) <| b_ (blk_below (g := gb564) (o := .cells #[.int .i64 0, .slice none 0 0, .slice none 0 0, .string (⟨#[]⟩ : ByteArray), .int .i64 0, .slice none 0 0, .slice none 0 0] 39 (0, 0)) (rK_ BK564.out) hb) <| b_ (below_step (hS_ GE564.out) hb) <| b_ (hbox) <| b_ (by rw [hg]; exact (below_size (hS_ GE564.out)) : w.heap.size ≤ gb573) <| b_ (by rw [hg]; exact (below_size (hS_ GE564.out)) : w.heap.size ≤ gb573) <| b_ (by rw [hg]; exact Nat.ne_of_lt (blk_lt (g := gb564) (o := .cells #[.int .i64 0, .slice none 0 0, .slice none 0 0, .string (⟨#[]⟩ : ByteArray), .int .i64 0, .slice none 0 0, .slice none 0 0] 39 (0, 0)) (rK_ BK564.out)) : gb564 ≠ gb573) <| c_ (by rw [hg]; exact Nat.ne_of_gt (blk_lt (g := gb564) (o := .cells #[.int .i64 0, .slice none 0 0, .slice none 0 0, .string (⟨#[]⟩ : ByteArray), .int .i64 0, .slice none 0 0, .slice none 0 0] 39 (0, 0)) (rK_ BK564.out)) : gb573 ≠ gb564); clear HO568 HO571 BK564 HB; obtain ⟨HO568, HO571, BK564, HB, BK573, GW573, GE573, NB564_573, NB573_564⟩ := n_; clear hb hbox hg; have hnb38 := NB573_564.out; have hnc38 := NB564_573.out; have hcz39_0 : w37.cell? ⟨gb573, 0, none⟩ = some (.int .i64 0) := (blk_cell BK573.out 0).trans rfl; have hcz39_1 : w37.cell? ⟨gb573, 1, none⟩ = some (.slice none 0 0) := (blk_cell BK573.out 1).trans rfl; have hcz39_2 : w37.cell? ⟨gb573, 2, none⟩ = some (.slice none 0 0) := (blk_cell BK573.out 2).trans rfl; have hfz39_0 := blk_frozen BK573.out 0; have hfz39_1 := blk_frozen BK573.out 1; have hfz39_2 := blk_frozen BK573.out 2; obtain ⟨Ao40, co40, eo40⟩ := Kd.R_slice HO568.out; subst eo40; obtain ⟨Ao41, co41, eo41⟩ := Kd.R_slice HO571.out; subst eo41) | ((with_reducible refine gate_callee (f := 45) rfl ?_); refine goesL_ (some 21) rfl rfl Try.func45 (by kernel_rfl) rfl #[.string (a0.extract 53 a0.size)] rfl aM_ ?_; (with_reducible refine (impl_ReadSig.calls k (a0.extract 53 a0.size) t574 t575 t578 false _ A7.out).mono ?_); rintro e w42 ⟨v576, v579, rfl, ho0, ho1, hb⟩; refine ⟨_, rfl, ?_⟩; have n_ := b_ (Kd.R_mono (Kd.R_told (Kd.R_told (Kd.R_old (by refine kR_ ?_; exact (Kd.R_mono (Kd.R_far (Kd.R_far (Kd.R_far (Kd.R_types HO568.out BK573.out (by decide)) (fun _ hk => hk.2) _) (fun _ hk => hk.2) _) (fun _ hk => hk.2) _) (fun _ h_ => h_.1))) hb) (Kd.R_base ho0)) (Kd.R_base ho1)) (fun _ h_ => h_.1)) <| b_ (Kd.R_mono (Kd.R_told (Kd.R_told (Kd.R_old (by refine kR_ ?_; exact (Kd.R_mono (Kd.R_far (Kd.R_far (Kd.R_far (Kd.R_types HO571.out BK573.out (by decide)) (fun _ hk => hk.2) _) (fun _ hk => hk.2) _) (fun _ hk => hk.2) _) (fun _ h_ => h_.1))) hb) (Kd.R_base ho0)) (Kd.R_base ho1)) (fun _ h_ => h_.1)) <| b_ (Kd.R_lower (Kd.R_new' (Kd.R_new' ho0 (Kd.R_lt (by refine kR_ ?_; exact (Kd.R_mono (Kd.R_far (Kd.R_far (Kd.R_far (Kd.R_types HO568.out BK573.out (by decide)) (fun _ hk => hk.2) _) (fun _ hk => hk.2) _) (fun _ hk => hk.2) _) (fun _ h_ => h_.1))))) (Kd.R_lt (by refine kR_ ?_; exact (Kd.R_mono (Kd.R_far (Kd.R_far (Kd.R_far (Kd.R_types HO571.out BK573.out (by decide)) (fun _ hk => hk.2) _) (fun _ hk => hk.2) _) (fun _ hk => hk.2) _) (fun _ h_ => h_.1))))) (below_size ((u4_ GE564.out GE573.out)))) <| b_ (Kd.R_lower (Kd.R_new' (Kd.R_new' ho1 (Kd.R_lt (by refine kR_ ?_; exact (Kd.R_mono (Kd.R_far (Kd.R_far (Kd.R_far (Kd.R_types HO568.out BK573.out (by decide)) (fun _ hk => hk.2) _) (fun _ hk => hk.2) _) (fun _ hk => hk.2) _) (fun _ h_ => h_.1))))) (Kd.R_lt (by refine kR_ ?_; exact (Kd.R_mono (Kd.R_far (Kd.R_far (Kd.R_far (Kd.R_types HO571.out BK573.out (by decide)) (fun _ hk => hk.2) _) (fun _ hk => hk.2) _) (fun _ hk => hk.2) _) (fun _ h_ => h_.1))))) (below_size ((u4_ GE564.out GE573.out)))) <| b_ (blk_below (g := gb564) (o := .cells #[.int .i64 0, .slice none 0 0, .slice none 0 0, .string (⟨#[]⟩ : ByteArray), .int .i64 0, .slice none 0 0, .slice none 0 0] 39 (0, 0)) (by refine kK_ ?_; refine blk_far ?_ NB564_573.out _; refine kK_ ?_; refine blk_far ?_ NB564_573.out _; refine kK_ ?_; refine blk_far ?_ NB564_573.out _; exact rK_ BK564.out) hb) <| b_ (blk_below (g := gb573) (o := .cells #[.int .i64 t565, .slice Ao40 t566.length co40, .slice Ao41 t569.length co41] 37 (0, 0)) (by refine kK_ ?_; refine blk_put (cs := #[.int .i64 t565, .slice Ao40 t566.length co40, .slice none 0 0]) ?_ 2 _ rfl; refine kK_ ?_; refine blk_put (cs := #[.int .i64 t565, .slice none 0 0, .slice none 0 0]) ?_ 1 _ rfl; refine kK_ ?_; refine blk_put (cs := #[.int .i64 0, .slice none 0 0, .slice none 0 0]) ?_ 0 _ rfl; exact rK_ BK573.out) hb) <| c_ (below_step ((u4_ GE564.out GE573.out)) hb); clear HO568 HO571 BK564 BK573 HB; obtain ⟨HO568, HO571, HO577, HO580, BK564, BK573, HB⟩ := n_; (try clear ho1)) | ((with_reducible refine gate_dst (N := 6) rfl ?_); refine box_event ?hg (N := 6) ?hd (cs := #[.int .i64 0, .slice none 0 0, .slice none 0 0]) (t := 37) ?hr ?_; (case hd => rfl); (case hg => rfl); (case hr => first | (go_simp; done) | (go_simp; rfl)); intro gb582 hg w43 hbox hb; have n_ := b_ (Kd.R_below (rR_ HO568.out) hb) <| b_ (Kd.R_below (rR_ HO571.out) hb) <| b_ (Kd.R_below (rR_ HO577.out) hb) <| b_ (Kd.R_below (rR_ HO580.out) hb) <| b_ (blk_below (g := gb564) (o := .cells #[.int .i64 0, .slice none 0 0, .slice none 0 0, .string (⟨#[]⟩ : ByteArray), .int .i64 0, .slice none 0 0, .slice none 0 0] 39 (0, 0)) (rK_ BK564.out) hb) <| b_ (blk_below (g := gb573) (o := .cells #[.int .i64 t565, .slice Ao40 t566.length co40, .slice Ao41 t569.length co41] 37 (0, 0)) (rK_ BK573.out) hb) <| b_ (below_step ((u4_ GE564.out GE573.out)) hb) <| b_ (hbox) <| b_ (by rw [hg]; exact (below_size ((u4_ GE564.out GE573.out))) : w.heap.size ≤ gb582) <| b_ (by rw [hg]; exact (below_size ((u4_ GE564.out GE573.out))) : w.heap.size ≤ gb582) <| b_ (by rw [hg]; exact Nat.ne_of_lt (blk_lt (g := gb564) (o := .cells #[.int .i64 0, .slice none 0 0, .slice none 0 0, .string (⟨#[]⟩ : ByteArray), .int .i64 0, .slice none 0 0, .slice none 0 0] 39 (0, 0)) (rK_ BK564.out)) : gb564 ≠ gb582) <| b_ (by rw [hg]; exact Nat.ne_of_gt (blk_lt (g := gb564) (o := .cells #[.int .i64 0, .slice none 0 0, .slice none 0 0, .string (⟨#[]⟩ : ByteArray), .int .i64 0, .slice none 0 0, .slice none 0 0] 39 (0, 0)) (rK_ BK564.out)) : gb582 ≠ gb564) <| b_ (by rw [hg]; exact Nat.ne_of_lt (blk_lt (g := gb573) (o := .cells #[.int .i64 t565, .slice Ao40 t566.length co40, .slice Ao41 t569.length co41] 37 (0, 0)) (rK_ BK573.out)) : gb573 ≠ gb582) <| c_ (by rw [hg]; exact Nat.ne_of_gt (blk_lt (g := gb573) (o := .cells #[.int .i64 t565, .slice Ao40 t566.length co40, .slice Ao41 t569.length co41] 37 (0, 0)) (rK_ BK573.out)) : gb582 ≠ gb573); clear HO568 HO571 HO577 HO580 BK564 BK573 HB; obtain ⟨HO568, HO571, HO577, HO580, BK564, BK573, HB, BK582, GW582, GE582, NB564_582, NB582_564, NB573_582, NB582_573⟩ := n_; clear hb hbox hg; have hnb44 := NB582_564.out; have hnc44 := NB564_582.out; have hnb45 := NB582_573.out; have hnc45 := NB573_582.out; have hcz46_0 : w43.cell? ⟨gb582, 0, none⟩ = some (.int .i64 0) := (blk_cell BK582.out 0).trans rfl; have hcz46_1 : w43.cell? ⟨gb582, 1, none⟩ = some (.slice none 0 0) := (blk_cell BK582.out 1).trans rfl; have hcz46_2 : w43.cell? ⟨gb582, 2, none⟩ = some (.slice none 0 0) := (blk_cell BK582.out 2).trans rfl; have hfz46_0 := blk_frozen BK582.out 0; have hfz46_1 := blk_frozen BK582.out 1; have hfz46_2 := blk_frozen BK582.out 2; obtain ⟨Ao47, co47, eo47⟩ := Kd.R_slice HO577.out; subst eo47; obtain ⟨Ao48, co48, eo48⟩ := Kd.R_slice HO580.out; subst eo48; have hcz49_0 : w43.cell? ⟨gb564, 0, none⟩ = some (.int .i64 0) := (blk_cell BK564.out 0).trans rfl; have hcz49_1 : w43.cell? ⟨gb564, 1, none⟩ = some (.slice none 0 0) := (blk_cell BK564.out 1).trans rfl; have hcz49_2 : w43.cell? ⟨gb564, 2, none⟩ = some (.slice none 0 0) := (blk_cell BK564.out 2).trans rfl; have hcz49_3 : w43.cell? ⟨gb564, 3, none⟩ = some (.string (⟨#[]⟩ : ByteArray)) := (blk_cell BK564.out 3).trans rfl; have hcz49_4 : w43.cell? ⟨gb564, 4, none⟩ = some (.int .i64 0) := (blk_cell BK564.out 4).trans rfl; have hcz49_5 : w43.cell? ⟨gb564, 5, none⟩ = some (.slice none 0 0) := (blk_cell BK564.out 5).trans rfl; have hcz49_6 : w43.cell? ⟨gb564, 6, none⟩ = some (.slice none 0 0) := (blk_cell BK564.out 6).trans rfl; have hfz49_0 := blk_frozen BK564.out 0; have hfz49_1 := blk_frozen BK564.out 1; have hfz49_2 := blk_frozen BK564.out 2; have hfz49_3 := blk_frozen BK564.out 3; have hfz49_4 := blk_frozen BK564.out 4; have hfz49_5 := blk_frozen BK564.out 5; have hfz49_6 := blk_frozen BK564.out 6))
   refine bodyPost_ret (results_ct rfl _ _ gb564 39 #[.int .i64 0, .slice none 0 0, .slice none 0 0, .string (⟨#[]⟩ : ByteArray), .int .i64 0, .slice none 0 0, .slice none 0 0] (0, 0) _ rfl (by refine kK_ ?_; refine blk_put (cs := #[.int .i64 0, .slice none 0 0, .slice none 0 0, .string (⟨#[]⟩ : ByteArray), .int .i64 0, .slice none 0 0, .slice none 0 0]) ?_ 6 _ rfl; refine kK_ ?_; refine blk_put (cs := #[.int .i64 0, .slice none 0 0, .slice none 0 0, .string (⟨#[]⟩ : ByteArray), .int .i64 0, .slice none 0 0, .slice none 0 0]) ?_ 5 _ rfl; refine kK_ ?_; refine blk_put (cs := #[.int .i64 0, .slice none 0 0, .slice none 0 0, .string (⟨#[]⟩ : ByteArray), .int .i64 0, .slice none 0 0, .slice none 0 0]) ?_ 4 _ rfl; refine kK_ ?_; refine blk_put (cs := #[.int .i64 0, .slice none 0 0, .slice none 0 0, .string (⟨#[]⟩ : ByteArray), .int .i64 0, .slice none 0 0, .slice none 0 0]) ?_ 3 _ rfl; refine kK_ ?_; refine blk_put (cs := #[.int .i64 0, .slice none 0 0, .slice none 0 0, .string (⟨#[]⟩ : ByteArray), .int .i64 0, .slice none 0 0, .slice none 0 0]) ?_ 2 _ rfl; refine kK_ ?_; refine blk_put (cs := #[.int .i64 0, .slice none 0 0, .slice none 0 0, .string (⟨#[]⟩ : ByteArray), .int .i64 0, .slice none 0 0, .slice none 0 0]) ?_ 1 _ rfl; refine kK_ ?_; refine blk_put (cs := #[.int .i64 0, .slice none 0 0, .slice none 0 0, .string (⟨#[]⟩ : ByteArray), .int .i64 0, .slice none 0 0, .slice none 0 0]) ?_ 0 _ rfl; refine kK_ ?_; refine blk_far ?_ NB564_582.out _; refine kK_ ?_; refine blk_far ?_ NB564_582.out _; refine kK_ ?_; refine blk_far ?_ NB564_582.out _; exact rK_ BK564.out) Try.underlying39 rfl (by kernel_rfl)) rfl ?_
   exact ⟨_, _, _, _, by first | rfl | (simp [errW_none, errW_some] <;> rfl) | (simp [*, errW_none, errW_some] <;> rfl), by first | exact Kd.R_nil _ _ _ _ _ | exact Kd.N_nil _ _ _ _ _ | exact Kd.V_nil _ _ _ _ _ | exact Kd.Q_nil _ _ _ _ _ | exact Kd.S_nil _ _ _ _ _, by first | exact Kd.R_nil _ _ _ _ _ | exact Kd.N_nil _ _ _ _ _ | exact Kd.V_nil _ _ _ _ _ | exact Kd.Q_nil _ _ _ _ _ | exact Kd.S_nil _ _ _ _ _, by first | exact Kd.R_nil _ _ _ _ _ | exact Kd.N_nil _ _ _ _ _ | exact Kd.V_nil _ _ _ _ _ | exact Kd.Q_nil _ _ _ _ _ | exact Kd.S_nil _ _ _ _ _, by first | exact Kd.R_nil _ _ _ _ _ | exact Kd.N_nil _ _ _ _ _ | exact Kd.V_nil _ _ _ _ _ | exact Kd.Q_nil _ _ _ _ _ | exact Kd.S_nil _ _ _ _ _, (u9_ GE564.out GE573.out GE582.out)⟩
 ·replace c8 := Bool.eq_false_iff.mpr c8
  subst c8
  replace H := iF_ H
  simp only [Option.some.injEq, Prod.mk.injEq] at H
  obtain ⟨rfl, rfl, rfl, rfl, rfl, rfl, rfl, rfl⟩ := H
  go_enter Try.func21, Try.ntmps21
  go_wp2_with (first | ((with_reducible refine gate_dst (N := 2) rfl ?_); refine box_event ?hg (N := 2) ?hd (cs := #[.int .i64 0, .slice none 0 0, .slice none 0 0, .string (⟨#[]⟩ : ByteArray), .int .i64 0, .slice none 0 0, .slice none 0 0]) (t := 39) ?hr ?_; (case hd => rfl); (case hg => rfl); (case hr => first | (go_simp; done) | (go_simp; rfl)); intro gb564 hg w50 hbox hb; have n_ := b_ (below_step (hB_) hb) <| b_ (hbox) <| b_ (by rw [hg]; exact (below_size (hB_)) : w.heap.size ≤ gb564) <| c_ (by rw [hg]; exact (below_size (hB_)) : w.heap.size ≤ gb564); clear HB; obtain ⟨HB, BK564, GW564, GE564⟩ := n_; clear hb hbox hg) | ((with_reducible refine gate_callee (f := 45) rfl ?_); refine goesL_ (some 15) rfl rfl Try.func45 (by kernel_rfl) rfl #[.string (a0.extract 0 49)] rfl aM_ ?_; (with_reducible refine (impl_ReadSig.calls k (a0.extract 0 49) t565 t566 t569 false _ A5.out).mono ?_); rintro e w51 ⟨v567, v570, rfl, ho0, ho1, hb⟩; refine ⟨_, rfl, ?_⟩; have n_ := b_ (Kd.R_lower ho0 (below_size (hS_ GE564.out))) <| b_ (Kd.R_lower ho1 (below_size (hS_ GE564.out))) <| b_ (blk_below (g := gb564) (o := .cells #[.int .i64 0, .slice none 0 0, .slice none 0 0, .string (⟨#[]⟩ : ByteArray), .int .i64 0, .slice none 0 0, .slice none 0 0] 39 (0, 0)) (rK_ BK564.out) hb) <| c_ (below_step (hS_ GE564.out) hb); clear BK564 HB; obtain ⟨HO568, HO571, BK564, HB⟩ := n_; (try clear ho1)) | ((with_reducible refine gate_dst (N := 4) rfl ?_); refine box_event ?hg (N := 4) ?hd (cs := #[.int .i64 0, .slice none 0 0, .slice none 0 0]) (t := 37) ?hr ?_; (case hd => rfl); (case hg => rfl); (case hr => first | (go_simp; done) | (go_simp; rfl)); intro gb573 hg w52 hbox hb; have n_ := b_ (Kd.R_below (rR_ HO568.out) hb) <| b_ (Kd.R_below (rR_ HO571.out) hb) <| b_ (blk_below (g := gb564) (o := .cells #[.int .i64 0, .slice none 0 0, .slice none 0 0, .string (⟨#[]⟩ : ByteArray), .int .i64 0, .slice none 0 0, .slice none 0 0] 39 (0, 0)) (rK_ BK564.out) hb) <| b_ (below_step (hS_ GE564.out) hb) <| b_ (hbox) <| b_ (by rw [hg]; exact (below_size (hS_ GE564.out)) : w.heap.size ≤ gb573) <| b_ (by rw [hg]; exact (below_size (hS_ GE564.out)) : w.heap.size ≤ gb573) <| b_ (by rw [hg]; exact Nat.ne_of_lt (blk_lt (g := gb564) (o := .cells #[.int .i64 0, .slice none 0 0, .slice none 0 0, .string (⟨#[]⟩ : ByteArray), .int .i64 0, .slice none 0 0, .slice none 0 0] 39 (0, 0)) (rK_ BK564.out)) : gb564 ≠ gb573) <| c_ (by rw [hg]; exact Nat.ne_of_gt (blk_lt (g := gb564) (o := .cells #[.int .i64 0, .slice none 0 0, .slice none 0 0, .string (⟨#[]⟩ : ByteArray), .int .i64 0, .slice none 0 0, .slice none 0 0] 39 (0, 0)) (rK_ BK564.out)) : gb573 ≠ gb564); clear HO568 HO571 BK564 HB; obtain ⟨HO568, HO571, BK564, HB, BK573, GW573, GE573, NB564_573, NB573_564⟩ := n_; clear hb hbox hg; have hnb53 := NB573_564.out; have hnc53 := NB564_573.out; have hcz54_0 : w52.cell? ⟨gb573, 0, none⟩ = some (.int .i64 0) := (blk_cell BK573.out 0).trans rfl; have hcz54_1 : w52.cell? ⟨gb573, 1, none⟩ = some (.slice none 0 0) := (blk_cell BK573.out 1).trans rfl; have hcz54_2 : w52.cell? ⟨gb573, 2, none⟩ = some (.slice none 0 0) := (blk_cell BK573.out 2).trans rfl; have hfz54_0 := blk_frozen BK573.out 0; have hfz54_1 := blk_frozen BK573.out 1; have hfz54_2 := blk_frozen BK573.out 2; obtain ⟨Ao55, co55, eo55⟩ := Kd.R_slice HO568.out; subst eo55; obtain ⟨Ao56, co56, eo56⟩ := Kd.R_slice HO571.out; subst eo56) | ((with_reducible refine gate_callee (f := 45) rfl ?_); refine goesL_ (some 21) rfl rfl Try.func45 (by kernel_rfl) rfl #[.string (a0.extract 53 a0.size)] rfl aM_ ?_; (with_reducible refine (impl_ReadSig.calls k (a0.extract 53 a0.size) t574 t575 t578 t581 _ A7.out).mono ?_); rintro e w57 ⟨v576, v579, rfl, ho0, ho1, hb⟩; refine ⟨_, rfl, ?_⟩; have n_ := b_ (Kd.R_mono (Kd.R_told (Kd.R_told (Kd.R_old (by refine kR_ ?_; exact (Kd.R_mono (Kd.R_far (Kd.R_far (Kd.R_far (Kd.R_types HO568.out BK573.out (by decide)) (fun _ hk => hk.2) _) (fun _ hk => hk.2) _) (fun _ hk => hk.2) _) (fun _ h_ => h_.1))) hb) (Kd.R_base ho0)) (Kd.R_base ho1)) (fun _ h_ => h_.1)) <| b_ (Kd.R_mono (Kd.R_told (Kd.R_told (Kd.R_old (by refine kR_ ?_; exact (Kd.R_mono (Kd.R_far (Kd.R_far (Kd.R_far (Kd.R_types HO571.out BK573.out (by decide)) (fun _ hk => hk.2) _) (fun _ hk => hk.2) _) (fun _ hk => hk.2) _) (fun _ h_ => h_.1))) hb) (Kd.R_base ho0)) (Kd.R_base ho1)) (fun _ h_ => h_.1)) <| b_ (Kd.R_lower (Kd.R_new' (Kd.R_new' ho0 (Kd.R_lt (by refine kR_ ?_; exact (Kd.R_mono (Kd.R_far (Kd.R_far (Kd.R_far (Kd.R_types HO568.out BK573.out (by decide)) (fun _ hk => hk.2) _) (fun _ hk => hk.2) _) (fun _ hk => hk.2) _) (fun _ h_ => h_.1))))) (Kd.R_lt (by refine kR_ ?_; exact (Kd.R_mono (Kd.R_far (Kd.R_far (Kd.R_far (Kd.R_types HO571.out BK573.out (by decide)) (fun _ hk => hk.2) _) (fun _ hk => hk.2) _) (fun _ hk => hk.2) _) (fun _ h_ => h_.1))))) (below_size ((u4_ GE564.out GE573.out)))) <| b_ (Kd.R_lower (Kd.R_new' (Kd.R_new' ho1 (Kd.R_lt (by refine kR_ ?_; exact (Kd.R_mono (Kd.R_far (Kd.R_far (Kd.R_far (Kd.R_types HO568.out BK573.out (by decide)) (fun _ hk => hk.2) _) (fun _ hk => hk.2) _) (fun _ hk => hk.2) _) (fun _ h_ => h_.1))))) (Kd.R_lt (by refine kR_ ?_; exact (Kd.R_mono (Kd.R_far (Kd.R_far (Kd.R_far (Kd.R_types HO571.out BK573.out (by decide)) (fun _ hk => hk.2) _) (fun _ hk => hk.2) _) (fun _ hk => hk.2) _) (fun _ h_ => h_.1))))) (below_size ((u4_ GE564.out GE573.out)))) <| b_ (blk_below (g := gb564) (o := .cells #[.int .i64 0, .slice none 0 0, .slice none 0 0, .string (⟨#[]⟩ : ByteArray), .int .i64 0, .slice none 0 0, .slice none 0 0] 39 (0, 0)) (by refine kK_ ?_; refine blk_far ?_ NB564_573.out _; refine kK_ ?_; refine blk_far ?_ NB564_573.out _; refine kK_ ?_; refine blk_far ?_ NB564_573.out _; exact rK_ BK564.out) hb) <| b_ (blk_below (g := gb573) (o := .cells #[.int .i64 t565, .slice Ao55 t566.length co55, .slice Ao56 t569.length co56] 37 (0, 0)) (by refine kK_ ?_; refine blk_put (cs := #[.int .i64 t565, .slice Ao55 t566.length co55, .slice none 0 0]) ?_ 2 _ rfl; refine kK_ ?_; refine blk_put (cs := #[.int .i64 t565, .slice none 0 0, .slice none 0 0]) ?_ 1 _ rfl; refine kK_ ?_; refine blk_put (cs := #[.int .i64 0, .slice none 0 0, .slice none 0 0]) ?_ 0 _ rfl; exact rK_ BK573.out) hb) <| c_ (below_step ((u4_ GE564.out GE573.out)) hb); clear HO568 HO571 BK564 BK573 HB; obtain ⟨HO568, HO571, HO577, HO580, BK564, BK573, HB⟩ := n_; (try clear ho1)) | ((with_reducible refine gate_dst (N := 6) rfl ?_); refine box_event ?hg (N := 6) ?hd (cs := #[.int .i64 0, .slice none 0 0, .slice none 0 0]) (t := 37) ?hr ?_; (case hd => rfl); (case hg => rfl); (case hr => first | (go_simp; done) | (go_simp; rfl)); intro gb582 hg w58 hbox hb; have n_ := b_ (Kd.R_below (rR_ HO568.out) hb) <| b_ (Kd.R_below (rR_ HO571.out) hb) <| b_ (Kd.R_below (rR_ HO577.out) hb) <| b_ (Kd.R_below (rR_ HO580.out) hb) <| b_ (blk_below (g := gb564) (o := .cells #[.int .i64 0, .slice none 0 0, .slice none 0 0, .string (⟨#[]⟩ : ByteArray), .int .i64 0, .slice none 0 0, .slice none 0 0] 39 (0, 0)) (rK_ BK564.out) hb) <| b_ (blk_below (g := gb573) (o := .cells #[.int .i64 t565, .slice Ao55 t566.length co55, .slice Ao56 t569.length co56] 37 (0, 0)) (rK_ BK573.out) hb) <| b_ (below_step ((u4_ GE564.out GE573.out)) hb) <| b_ (hbox) <| b_ (by rw [hg]; exact (below_size ((u4_ GE564.out GE573.out))) : w.heap.size ≤ gb582) <| b_ (by rw [hg]; exact (below_size ((u4_ GE564.out GE573.out))) : w.heap.size ≤ gb582) <| b_ (by rw [hg]; exact Nat.ne_of_lt (blk_lt (g := gb564) (o := .cells #[.int .i64 0, .slice none 0 0, .slice none 0 0, .string (⟨#[]⟩ : ByteArray), .int .i64 0, .slice none 0 0, .slice none 0 0] 39 (0, 0)) (rK_ BK564.out)) : gb564 ≠ gb582) <| b_ (by rw [hg]; exact Nat.ne_of_gt (blk_lt (g := gb564) (o := .cells #[.int .i64 0, .slice none 0 0, .slice none 0 0, .string (⟨#[]⟩ : ByteArray), .int .i64 0, .slice none 0 0, .slice none 0 0] 39 (0, 0)) (rK_ BK564.out)) : gb582 ≠ gb564) <| b_ (by rw [hg]; exact Nat.ne_of_lt (blk_lt (g := gb573) (o := .cells #[.int .i64 t565, .slice Ao55 t566.length co55, .slice Ao56 t569.length co56] 37 (0, 0)) (rK_ BK573.out)) : gb573 ≠ gb582) <| c_ (by rw [hg]; exact Nat.ne_of_gt (blk_lt (g := gb573) (o := .cells #[.int .i64 t565, .slice Ao55 t566.length co55, .slice Ao56 t569.length co56] 37 (0, 0)) (rK_ BK573.out)) : gb582 ≠ gb573); clear HO568 HO571 HO577 HO580 BK564 BK573 HB; obtain ⟨HO568, HO571, HO577, HO580, BK564, BK573, HB, BK582, GW582, GE582, NB564_582, NB582_564, NB573_582, NB582_573⟩ := n_; clear hb hbox hg; have hnb59 := NB582_564.out; have hnc59 := NB564_582.out; have hnb60 := NB582_573.out; have hnc60 := NB573_582.out; have hcz61_0 : w58.cell? ⟨gb582, 0, none⟩ = some (.int .i64 0) := (blk_cell BK582.out 0).trans rfl; have hcz61_1 : w58.cell? ⟨gb582, 1, none⟩ = some (.slice none 0 0) := (blk_cell BK582.out 1).trans rfl; have hcz61_2 : w58.cell? ⟨gb582, 2, none⟩ = some (.slice none 0 0) := (blk_cell BK582.out 2).trans rfl; have hfz61_0 := blk_frozen BK582.out 0; have hfz61_1 := blk_frozen BK582.out 1; have hfz61_2 := blk_frozen BK582.out 2; obtain ⟨Ao62, co62, eo62⟩ := Kd.R_slice HO577.out; subst eo62; obtain ⟨Ao63, co63, eo63⟩ := Kd.R_slice HO580.out; subst eo63; have hcz64_0 : w58.cell? ⟨gb564, 0, none⟩ = some (.int .i64 0) := (blk_cell BK564.out 0).trans rfl; have hcz64_1 : w58.cell? ⟨gb564, 1, none⟩ = some (.slice none 0 0) := (blk_cell BK564.out 1).trans rfl; have hcz64_2 : w58.cell? ⟨gb564, 2, none⟩ = some (.slice none 0 0) := (blk_cell BK564.out 2).trans rfl; have hcz64_3 : w58.cell? ⟨gb564, 3, none⟩ = some (.string (⟨#[]⟩ : ByteArray)) := (blk_cell BK564.out 3).trans rfl; have hcz64_4 : w58.cell? ⟨gb564, 4, none⟩ = some (.int .i64 0) := (blk_cell BK564.out 4).trans rfl; have hcz64_5 : w58.cell? ⟨gb564, 5, none⟩ = some (.slice none 0 0) := (blk_cell BK564.out 5).trans rfl; have hcz64_6 : w58.cell? ⟨gb564, 6, none⟩ = some (.slice none 0 0) := (blk_cell BK564.out 6).trans rfl; have hfz64_0 := blk_frozen BK564.out 0; have hfz64_1 := blk_frozen BK564.out 1; have hfz64_2 := blk_frozen BK564.out 2; have hfz64_3 := blk_frozen BK564.out 3; have hfz64_4 := blk_frozen BK564.out 4; have hfz64_5 := blk_frozen BK564.out 5; have hfz64_6 := blk_frozen BK564.out 6))
  refine bodyPost_ret (results_ct rfl _ _ gb564 39 #[.int .i64 0, .slice none 0 0, .slice none 0 0, .string (⟨#[]⟩ : ByteArray), .int .i64 0, .slice none 0 0, .slice none 0 0] (0, 0) _ rfl (by refine kK_ ?_; refine blk_put (cs := #[.int .i64 0, .slice none 0 0, .slice none 0 0, .string (⟨#[]⟩ : ByteArray), .int .i64 0, .slice none 0 0, .slice none 0 0]) ?_ 6 _ rfl; refine kK_ ?_; refine blk_put (cs := #[.int .i64 0, .slice none 0 0, .slice none 0 0, .string (⟨#[]⟩ : ByteArray), .int .i64 0, .slice none 0 0, .slice none 0 0]) ?_ 5 _ rfl; refine kK_ ?_; refine blk_put (cs := #[.int .i64 0, .slice none 0 0, .slice none 0 0, .string (⟨#[]⟩ : ByteArray), .int .i64 0, .slice none 0 0, .slice none 0 0]) ?_ 4 _ rfl; refine kK_ ?_; refine blk_put (cs := #[.int .i64 0, .slice none 0 0, .slice none 0 0, .string (⟨#[]⟩ : ByteArray), .int .i64 0, .slice none 0 0, .slice none 0 0]) ?_ 3 _ rfl; refine kK_ ?_; refine blk_put (cs := #[.int .i64 0, .slice none 0 0, .slice none 0 0, .string (⟨#[]⟩ : ByteArray), .int .i64 0, .slice none 0 0, .slice none 0 0]) ?_ 2 _ rfl; refine kK_ ?_; refine blk_put (cs := #[.int .i64 0, .slice none 0 0, .slice none 0 0, .string (⟨#[]⟩ : ByteArray), .int .i64 0, .slice none 0 0, .slice none 0 0]) ?_ 1 _ rfl; refine kK_ ?_; refine blk_put (cs := #[.int .i64 0, .slice none 0 0, .slice none 0 0, .string (⟨#[]⟩ : ByteArray), .int .i64 0, .slice none 0 0, .slice none 0 0]) ?_ 0 _ rfl; refine kK_ ?_; refine blk_far ?_ NB564_582.out _; refine kK_ ?_; refine blk_far ?_ NB564_582.out _; refine kK_ ?_; refine blk_far ?_ NB564_582.out _; exact rK_ BK564.out) Try.underlying39 rfl (by kernel_rfl)) rfl ?_
  exact ⟨_, _, _, _, by first | rfl | (simp [errW_none, errW_some] <;> rfl) | (simp [*, errW_none, errW_some] <;> rfl), by first | exact Kd.R_nil _ _ _ _ _ | exact Kd.N_nil _ _ _ _ _ | exact Kd.V_nil _ _ _ _ _ | exact Kd.Q_nil _ _ _ _ _ | exact Kd.S_nil _ _ _ _ _, by first | exact Kd.R_nil _ _ _ _ _ | exact Kd.N_nil _ _ _ _ _ | exact Kd.V_nil _ _ _ _ _ | exact Kd.Q_nil _ _ _ _ _ | exact Kd.S_nil _ _ _ _ _, by first | exact Kd.R_nil _ _ _ _ _ | exact Kd.N_nil _ _ _ _ _ | exact Kd.V_nil _ _ _ _ _ | exact Kd.Q_nil _ _ _ _ _ | exact Kd.S_nil _ _ _ _ _, by first | exact Kd.R_nil _ _ _ _ _ | exact Kd.N_nil _ _ _ _ _ | exact Kd.V_nil _ _ _ _ _ | exact Kd.Q_nil _ _ _ _ _ | exact Kd.S_nil _ _ _ _ _, (u9_ GE564.out GE573.out GE582.out)⟩

end Go.Proofs.Ytnckhligcdieaaa.P
