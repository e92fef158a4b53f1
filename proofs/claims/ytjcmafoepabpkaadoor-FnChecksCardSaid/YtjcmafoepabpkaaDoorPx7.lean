-- printed texts of this session, regrouped
import Derived.Test.YtjcmafoepabpkaaDoorMW7
import Derived.Test.YtjcmafoepabpkaaDoorMW8
import Derived.Test.YtjcmafoepabpkaaDoorMW9
import Derived.Test.YtjcmafoepabpkaaDoorMW6
import Derived.Test.YtjcmafoepabpkaaDoorPx0
import Derived.Test.YtjcmafoepabpkaaDoorPx2
import Derived.Test.YtjcmafoepabpkaaDoorPx4
namespace Go.Proofs.YtjcmafoepabpkaaDoor.P
open Go.RowKit Go.Proofs.YtjcmafoepabpkaaDoorW.PrintWords Go.Proofs.YtjcmafoepabpkaaDoorW.PrintLast Go.Proofs.YtjcmafoepabpkaaDoorW.PrintMore
attribute [local go_sem] max2_int min2_int max_two min_two max_three min_three max_four min_four   -- for this text's walks alone
set_option linter.unusedVariables false
set_option linter.unusedSimpArgs false
set_option maxHeartbeats 8000000
set_option maxRecDepth 100000

/-! ### spec_SigText: function 104 -/
mutual
def spec_SigText.l0 : Nat → ByteArray → Int → Int → List ByteArray → List ByteArray → Option (ByteArray × Bool)
 | 0, _, _, _, _, _ => none
 | k + 1, x4, x5, x1055000, x1055001, x1055002 => if x5 < 10 then (if 0 ≤ x5 then (if x5 < (x1055001.length : Int) then (if x4.size + (rdOf ByteArray.empty x1055001 x5).size ≤ 9223372036854775807 then (spec_SigText.l0 k (x4 ++ (rdOf ByteArray.empty x1055001 x5)) (wrap64 (x5 + 1)) x1055000 x1055001 x1055002) else (none)) else (none)) else (none)) else (spec_SigText.l1 k x4 0 x1055000 x1055001 x1055002)
def spec_SigText.l1 : Nat → ByteArray → Int → Int → List ByteArray → List ByteArray → Option (ByteArray × Bool)
 | 0, _, _, _, _, _ => none
 | k + 1, x4, x6, x1055000, x1055001, x1055002 => if x6 < 2 then (if 0 ≤ x6 then (if x6 < (x1055002.length : Int) then (if x4.size + (rdOf ByteArray.empty x1055002 x6).size ≤ 9223372036854775807 then (spec_SigText.l1 k (x4 ++ (rdOf ByteArray.empty x1055002 x6)) (wrap64 (x6 + 1)) x1055000 x1055001 x1055002) else (none)) else (none)) else (none)) else (some (x4, true))
end
def spec_SigText.f (k : Nat) (a0_0 : Int) (l0_1 : List ByteArray) (l0_2 : List ByteArray) : Option (ByteArray × Bool) := (spec_SigOk.f k a0_0 l0_1 l0_2).bind fun t1055 => (if t1055 = true then ((spec_l06Byte.f a0_0).bind fun t1056 => (spec_SigText.l0 k t1056 0 a0_0 l0_1 l0_2)) else (some ((⟨#[]⟩ : ByteArray), false)))
theorem spec_SigText.mono_l : ∀ k, (∀ y0 y1 y2 y3 y4, LeO (spec_SigText.l0 k y0 y1 y2 y3 y4) (spec_SigText.l0 (k + 1) y0 y1 y2 y3 y4)) ∧ (∀ y0 y1 y2 y3 y4, LeO (spec_SigText.l1 k y0 y1 y2 y3 y4) (spec_SigText.l1 (k + 1) y0 y1 y2 y3 y4))
 | 0 => ⟨fun _ _ _ _ _ r h => by simp [spec_SigText.l0] at h, fun _ _ _ _ _ r h => by simp [spec_SigText.l1] at h⟩
 | k + 1 => by
  obtain ⟨ih0, ih1⟩ := spec_SigText.mono_l k
  refine ⟨?_, ?_⟩
  ·intro y0 y1 y2 y3 y4
   unfold spec_SigText.l0
   repeat' first
   | (with_reducible exact ih0 _ _ _ _ _)
   | (with_reducible exact ih1 _ _ _ _ _)
   | (with_reducible exact spec_SigOk.mono _ _ _ _)
   | (with_reducible exact LeO.refl _)
   | (with_reducible exact LeO.none _)
   | (with_reducible refine LeO.ite ?_ ?_)
   | (with_reducible refine LeO.bind ?_ (fun _ => ?_))
   | exact ih0 _ _ _ _ _
   | exact ih1 _ _ _ _ _
   | exact spec_SigOk.mono _ _ _ _
   | exact LeO.none _
   | refine LeO.ite ?_ ?_
   | refine LeO.bind ?_ (fun _ => ?_)
  ·intro y0 y1 y2 y3 y4
   unfold spec_SigText.l1
   repeat' first
   | (with_reducible exact ih0 _ _ _ _ _)
   | (with_reducible exact ih1 _ _ _ _ _)
   | (with_reducible exact spec_SigOk.mono _ _ _ _)
   | (with_reducible exact LeO.refl _)
   | (with_reducible exact LeO.none _)
   | (with_reducible refine LeO.ite ?_ ?_)
   | (with_reducible refine LeO.bind ?_ (fun _ => ?_))
   | exact ih0 _ _ _ _ _
   | exact ih1 _ _ _ _ _
   | exact spec_SigOk.mono _ _ _ _
   | exact LeO.none _
   | refine LeO.ite ?_ ?_
   | refine LeO.bind ?_ (fun _ => ?_)
theorem spec_SigText.mono : ∀ a0 a1 a2 k, LeO (spec_SigText.f k a0 a1 a2) (spec_SigText.f (k + 1) a0 a1 a2) := by
 intro a0 a1 a2 k
 obtain ⟨ih0, ih1⟩ := spec_SigText.mono_l k
 unfold spec_SigText.f
 repeat' first
   | (with_reducible exact ih0 _ _ _ _ _)
   | (with_reducible exact ih1 _ _ _ _ _)
   | (with_reducible exact spec_SigOk.mono _ _ _ _)
   | (with_reducible exact LeO.refl _)
   | (with_reducible exact LeO.none _)
   | (with_reducible refine LeO.ite ?_ ?_)
   | (with_reducible refine LeO.bind ?_ (fun _ => ?_))
   | exact ih0 _ _ _ _ _
   | exact ih1 _ _ _ _ _
   | exact spec_SigOk.mono _ _ _ _
   | exact LeO.none _
   | refine LeO.ite ?_ ?_
   | refine LeO.bind ?_ (fun _ => ?_)
theorem spec_SigText.calls (k : Nat) (a0_0 : Int) (A0_1 : Option Addr) (c0_1 : Nat) (l0_1 : List ByteArray) (A0_2 : Option Addr) (c0_2 : Nat) (l0_2 : List ByteArray) (r1 : ByteArray) (r2 : Bool) (w : World) (hr0_1 : Kd.C Kd.string w A0_1 l0_1.length l0_1) (hc0_1 : l0_1.length ≤ c0_1) (hr0_2 : Kd.C Kd.string w A0_2 l0_2.length l0_2) (hc0_2 : l0_2.length ≤ c0_2) (h : spec_SigText.f k a0_0 l0_1 l0_2 = some (r1, r2)) :
  Calls Tryd.prog 104 #[.agg #[.int .i64 a0_0, .slice A0_1 l0_1.length c0_1, .slice A0_2 l0_2.length c0_2]] w fun e w' => e = .returned (.tuple #[.string r1, .bool r2]) ∧ Below w.heap.size w w' := by
 have hu42 := Tryd.underlying42
 have HR0_1 := Aside0.mk hr0_1
 have HC0_1 := Aside0.mk hc0_1
 clear hr0_1 hc0_1
 have HR0_2 := Aside0.mk hr0_2
 have HC0_2 := Aside0.mk hc0_2
 clear hr0_2 hc0_2
 have HB := Aside0.mk (Below.refl w.heap.size w)
 have H : ((spec_SigOk.f k a0_0 l0_1 l0_2).bind fun t1055 => (if t1055 = true then ((spec_l06Byte.f a0_0).bind fun t1056 => (spec_SigText.l0 k t1056 0 a0_0 l0_1 l0_2)) else (some ((⟨#[]⟩ : ByteArray), false)))) = some (r1, r2) := h
 clear h
 replace H := Option.bind_eq_some_iff.mp H
 obtain ⟨t1055, A20, H⟩ := H
 try dsimp -simprocs only at H
 have A2 := Aside0.mk A20
 clear A20
 by_cases c3 : t1055 = true
 ·subst c3
  have H1 : ((spec_l06Byte.f a0_0).bind fun t1056 => (spec_SigText.l0 k t1056 0 a0_0 l0_1 l0_2)) = some (r1, r2) := by rw [if_pos rfl] at H; exact H
  clear H
  have H := H1
  clear H1
  replace H := Option.bind_eq_some_iff.mp H
  obtain ⟨t1056, A40, H⟩ := H
  try dsimp -simprocs only at H
  have A4 := Aside0.mk A40
  clear A40
  have H' := Aside0.mk H
  clear H
  go_enter Tryd.func104, Tryd.ntmps104
  go_wp2_with (first | ((with_reducible refine gate_dst (N := 1) rfl ?_); refine box_event ?hg (N := 1) ?hd (cs := #[.int .i64 a0_0, .slice A0_1 l0_1.length c0_1, .slice A0_2 l0_2.length c0_2]) (t := 42) ?hr ?_; (case hd => rfl); (case hg => rfl); (case hr => first | (go_simp; done) | (go_simp; rfl)); intro gb1054 hg w5 hbox hb; have n0_ := Aside0.mk (below_step (hB_) hb); have n1_ := Aside0.mk (hbox); have n2_ := Aside0.mk ((by rw [hg]; exact (below_size (hB_)) : w.heap.size ≤ gb1054)); have n3_ := Aside0.mk ((by rw [hg]; exact (below_size (hB_)) : w.heap.size ≤ gb1054)); replace HB := n0_; have BK1054 := n1_; have GW1054 := n2_; have GE1054 := n3_; clear n0_ n1_ n2_ n3_; clear hb hbox hg; have hcz6_0 : w5.cell? ⟨gb1054, 0, none⟩ = some (.int .i64 a0_0) := (blk_cell BK1054.out 0).trans rfl; have hcz6_1 : w5.cell? ⟨gb1054, 1, none⟩ = some (.slice A0_1 l0_1.length c0_1) := (blk_cell BK1054.out 1).trans rfl; have hcz6_2 : w5.cell? ⟨gb1054, 2, none⟩ = some (.slice A0_2 l0_2.length c0_2) := (blk_cell BK1054.out 2).trans rfl; have hfz6_0 := blk_frozen BK1054.out 0; have hfz6_1 := blk_frozen BK1054.out 1; have hfz6_2 := blk_frozen BK1054.out 2) | ((with_reducible refine gate_callee (f := 53) rfl ?_); refine goesL_ (some 8) rfl rfl Tryd.func53 (by kernel_rfl) rfl #[.agg #[.int .i64 a0_0, .slice A0_1 l0_1.length c0_1, .slice A0_2 l0_2.length c0_2]] rfl aM_ ?_; (with_reducible refine (spec_SigOk.calls k a0_0 _ _ l0_1 _ _ l0_2 true _ ?side1 ?side2 ?side3 ?side4 A2.out).mono ?_); (case side1 => exact cR_ (Kd.C_below HR0_1.out HB.out)); (case side2 => exact HC0_1.out); (case side3 => exact cR_ (Kd.C_below HR0_2.out HB.out)); (case side4 => exact HC0_2.out); rintro e w7 ⟨rfl, hb⟩; refine ⟨_, rfl, ?_⟩; have n0_ := Aside0.mk (blk_below (g := gb1054) (o := .cells #[.int .i64 a0_0, .slice A0_1 l0_1.length c0_1, .slice A0_2 l0_2.length c0_2] 42 (0, 0)) (rK_ BK1054.out) hb); have n1_ := Aside0.mk (below_step (hS_ GE1054.out) hb); replace BK1054 := n0_; replace HB := n1_; clear n0_ n1_; (try clear hb); have hcz8_0 : w7.cell? ⟨gb1054, 0, none⟩ = some (.int .i64 a0_0) := (blk_cell BK1054.out 0).trans rfl; have hcz8_1 : w7.cell? ⟨gb1054, 1, none⟩ = some (.slice A0_1 l0_1.length c0_1) := (blk_cell BK1054.out 1).trans rfl; have hcz8_2 : w7.cell? ⟨gb1054, 2, none⟩ = some (.slice A0_2 l0_2.length c0_2) := (blk_cell BK1054.out 2).trans rfl; have hfz8_0 := blk_frozen BK1054.out 0; have hfz8_1 := blk_frozen BK1054.out 1; have hfz8_2 := blk_frozen BK1054.out 2) | ((with_reducible refine gate_callee (f := 65) rfl ?_); refine goesL_ (some 12) rfl rfl Tryd.func65 (by kernel_rfl) rfl #[.int .i64 a0_0] rfl aM_ ?_; (with_reducible refine (spec_l06Byte.calls a0_0 t1056 _ A4.out).mono ?_); rintro e w9 ⟨rfl, hb⟩; refine ⟨_, rfl, ?_⟩; have n0_ := Aside0.mk (blk_below (g := gb1054) (o := .cells #[.int .i64 a0_0, .slice A0_1 l0_1.length c0_1, .slice A0_2 l0_2.length c0_2] 42 (0, 0)) (rK_ BK1054.out) hb); have n1_ := Aside0.mk (below_step (hS_ GE1054.out) hb); replace BK1054 := n0_; replace HB := n1_; clear n0_ n1_; (try clear hb)))
  go_loopg [4, 5] k (fun kq v4 v5 w' => ∃ (x4_1 : ByteArray) (x5_1 : Int), v4 = .string x4_1 ∧ v5 = .int .i64 x5_1 ∧ Aside0 (spec_SigText.l0 kq x4_1 x5_1 a0_0 l0_1 l0_2 = some (r1, r2)) ∧ Aside0 (kq ≤ k) ∧ Aside0 (w'.heap[gb1054]? = some (.cells #[.int .i64 a0_0, (.slice A0_1 l0_1.length c0_1), (.slice A0_2 l0_2.length c0_2)] 42 (0, 0))) ∧ Aside0 (Below w.heap.size w w'))
  case atStart => exact ⟨(t1056), (0), (by first | rfl | (simp; done) | (simp [*]; done)), (by first | rfl | (simp; done) | (simp [*]; done)), H', ⟨Nat.le_refl _⟩, ⟨by refine kK_ ?_; exact BK1054.out⟩, ⟨hS_ GE1054.out⟩⟩
  case round =>
   clear H'
   try clear c1
   try clear p2
   try clear c3
   try clear c5
   try clear c6
   try clear hcz6_0
   try clear hcz6_1
   try clear hcz6_2
   try clear hcz8_0
   try clear hcz8_1
   try clear hcz8_2
   try clear hfz6_0
   try clear hfz6_1
   try clear hfz6_2
   try clear hfz8_0
   try clear hfz8_1
   try clear hfz8_2
   obtain ⟨x4_1, x5_1, rfl, rfl, HA, HK1, BK1054, HB⟩ := hrel
   cases gk with
   | zero => exact absurd HA.out (by simp [spec_SigText.l0])
   | succ k1 =>
    have H := HA.out
    clear HA
    simp only [spec_SigText.l0] at H
    by_cases c10 : x5_1 < 10
    ·rw [if_pos c10] at H
     have c10b0 := decide_eq_true c10
     clear c10
     obtain ⟨c11, H⟩ := iN_ H
     have c11b0 := decide_eq_true c11
     clear c11
     obtain ⟨c12, H⟩ := iN_ H
     have c12b0 := decide_eq_true c12
     clear c12
     obtain ⟨c13, H⟩ := iN_ H
     have c13b0 := eq_true c13
     have c13b1 := decide_eq_true c13
     try have c13b2 : (9223372036854775807 < x4_1.size + (rdOf ByteArray.empty l0_1 x5_1).size) = False := eq_false (Nat.not_lt.2 c13)
     have H' := Aside0.mk H
     clear H
     have hcz14_0 : wr.cell? ⟨gb1054, 0, none⟩ = some (.int .i64 a0_0) := (blk_cell BK1054.out 0).trans rfl
     have hcz14_1 : wr.cell? ⟨gb1054, 1, none⟩ = some (.slice A0_1 l0_1.length c0_1) := (blk_cell BK1054.out 1).trans rfl
     have hcz14_2 : wr.cell? ⟨gb1054, 2, none⟩ = some (.slice A0_2 l0_2.length c0_2) := (blk_cell BK1054.out 2).trans rfl
     have hfz14_0 := blk_frozen BK1054.out 0
     have hfz14_1 := blk_frozen BK1054.out 1
     have hfz14_2 := blk_frozen BK1054.out 2
     have p1057 : 0 ≤ (x5_1 : Int) := of_decide_eq_true (by first | (with_reducible assumption) | assumption)
     have q1057 : x5_1 < (l0_1.length : Int) := of_decide_eq_true (by first | (with_reducible assumption) | assumption)
     obtain ⟨ad1057, e1057, hx1057_0⟩ := Kd.at_string HR0_1.out x5_1 p1057 q1057
     cases e1057
     replace hx1057_0 := (HB.out.cell (World.block_lt_of_cell? w _ hx1057_0)).trans hx1057_0
     replace p1057 := eq_true p1057
     replace q1057 := eq_true q1057
     go_wp2
     go_roundg k1
     case measure => have := HK1.out; omega
     case rel => exact ⟨(x4_1 ++ (rdOf ByteArray.empty l0_1 x5_1)), (wrap64 (x5_1 + 1)), (by first | rfl | (simp; done) | (simp [*]; done)), (by first | rfl | (simp; done) | (simp [*]; done)), H', ⟨by have := HK1.out; omega⟩, ⟨by refine kK_ ?_; exact BK1054.out⟩, ⟨hS_ GE1054.out⟩⟩
    rw [if_neg c10] at H
    have c10b0 := decide_eq_false c10
    clear c10
    have H' := Aside0.mk H
    clear H
    go_wp2
    go_loopg [4, 6] k1 (fun kq v4 v6 w' => ∃ (x4_2 : ByteArray) (x6_2 : Int), v4 = .string x4_2 ∧ v6 = .int .i64 x6_2 ∧ Aside0 (spec_SigText.l1 kq x4_2 x6_2 a0_0 l0_1 l0_2 = some (r1, r2)) ∧ Aside0 (kq ≤ k1) ∧ Aside0 (w'.heap[gb1054]? = some (.cells #[.int .i64 a0_0, (.slice A0_1 l0_1.length c0_1), (.slice A0_2 l0_2.length c0_2)] 42 (0, 0))) ∧ Aside0 (Below w.heap.size w w'))
    case atStart => exact ⟨(x4_1), (0), (by first | rfl | (simp; done) | (simp [*]; done)), (by first | rfl | (simp; done) | (simp [*]; done)), H', ⟨Nat.le_refl _⟩, ⟨by refine kK_ ?_; exact BK1054.out⟩, ⟨hS_ GE1054.out⟩⟩
    case round =>
     clear H'
     try clear c1
     try clear p1
     try clear q1
     try clear hx1
     try clear p2
     try clear c3
     try clear c5
     try clear c6
     try clear p6
     try clear c10
     try clear c10b0
     try clear p10
     try clear q10
     try clear hx10
     try clear c11
     try clear c11b0
     try clear c12
     try clear c12b0
     try clear c13
     try clear c13b0
     try clear c13b1
     try clear c13b2
     try clear hcz14_0
     try clear hcz14_1
     try clear hcz14_2
     try clear hcz6_0
     try clear hcz6_1
     try clear hcz6_2
     try clear hcz8_0
     try clear hcz8_1
     try clear hcz8_2
     try clear hfz14_0
     try clear hfz14_1
     try clear hfz14_2
     try clear hfz6_0
     try clear hfz6_1
     try clear hfz6_2
     try clear hfz8_0
     try clear hfz8_1
     try clear hfz8_2
     try clear hx1057_0
     try clear p1057
     try clear p2
     try clear q1057
     obtain ⟨x4_2, x6_2, rfl, rfl, HA, HK2, BK1054, HB⟩ := hrel
     cases gk with
     | zero => exact absurd HA.out (by simp [spec_SigText.l1])
     | succ k2 =>
      have H := HA.out
      clear HA
      simp only [spec_SigText.l1] at H
      by_cases c15 : x6_2 < 2
      rotate_left
      ·rw [if_neg c15] at H
       have c15b0 := decide_eq_false c15
       clear c15
       simp only [Option.some.injEq, Prod.mk.injEq] at H
       obtain ⟨rfl, rfl⟩ := H
       go_wp2
       go_ret2
       exact ⟨by first | rfl | (simp [errW_none, errW_some] <;> rfl) | (simp [*, errW_none, errW_some] <;> rfl), hS_ GE1054.out⟩
      rw [if_pos c15] at H
      have c15b0 := decide_eq_true c15
      clear c15
      obtain ⟨c16, H⟩ := iN_ H
      have c16b0 := decide_eq_true c16
      clear c16
      obtain ⟨c17, H⟩ := iN_ H
      have c17b0 := decide_eq_true c17
      clear c17
      obtain ⟨c18, H⟩ := iN_ H
      have c18b0 := eq_true c18
      have c18b1 := decide_eq_true c18
      try have c18b2 : (9223372036854775807 < x4_2.size + (rdOf ByteArray.empty l0_2 x6_2).size) = False := eq_false (Nat.not_lt.2 c18)
      have H' := Aside0.mk H
      clear H
      have hcz19_0 : wr.cell? ⟨gb1054, 0, none⟩ = some (.int .i64 a0_0) := (blk_cell BK1054.out 0).trans rfl
      have hcz19_1 : wr.cell? ⟨gb1054, 1, none⟩ = some (.slice A0_1 l0_1.length c0_1) := (blk_cell BK1054.out 1).trans rfl
      have hcz19_2 : wr.cell? ⟨gb1054, 2, none⟩ = some (.slice A0_2 l0_2.length c0_2) := (blk_cell BK1054.out 2).trans rfl
      have hfz19_0 := blk_frozen BK1054.out 0
      have hfz19_1 := blk_frozen BK1054.out 1
      have hfz19_2 := blk_frozen BK1054.out 2
      have p1058 : 0 ≤ (x6_2 : Int) := of_decide_eq_true (by first | (with_reducible assumption) | assumption)
      have q1058 : x6_2 < (l0_2.length : Int) := of_decide_eq_true (by first | (with_reducible assumption) | assumption)
      obtain ⟨ad1058, e1058, hx1058_0⟩ := Kd.at_string HR0_2.out x6_2 p1058 q1058
      cases e1058
      replace hx1058_0 := (HB.out.cell (World.block_lt_of_cell? w _ hx1058_0)).trans hx1058_0
      replace p1058 := eq_true p1058
      replace q1058 := eq_true q1058
      go_wp2
      go_roundg k2
      case measure => have := HK1.out; have := HK2.out; omega
      case rel => exact ⟨(x4_2 ++ (rdOf ByteArray.empty l0_2 x6_2)), (wrap64 (x6_2 + 1)), (by first | rfl | (simp; done) | (simp [*]; done)), (by first | rfl | (simp; done) | (simp [*]; done)), H', ⟨by have := HK1.out; have := HK2.out; omega⟩, ⟨by refine kK_ ?_; exact BK1054.out⟩, ⟨hS_ GE1054.out⟩⟩
 ·replace c3 := Bool.eq_false_iff.mpr c3
  subst c3
  have H1 : (some ((⟨#[]⟩ : ByteArray), false)) = some (r1, r2) := by rw [if_neg (show ¬ (false = true) by decide)] at H; exact H
  clear H
  have H := H1
  clear H1
  simp only [Option.some.injEq, Prod.mk.injEq] at H
  obtain ⟨rfl, rfl⟩ := H
  go_enter Tryd.func104, Tryd.ntmps104
  go_wp2_with (first | ((with_reducible refine gate_dst (N := 1) rfl ?_); refine box_event ?hg (N := 1) ?hd (cs := #[.int .i64 a0_0, .slice A0_1 l0_1.length c0_1, .slice A0_2 l0_2.length c0_2]) (t := 42) ?hr ?_; (case hd => rfl); (case hg => rfl); (case hr => first | (go_simp; done) | (go_simp; rfl)); intro gb1054 hg w20 hbox hb; have n0_ := Aside0.mk (below_step (hB_) hb); have n1_ := Aside0.mk (hbox); have n2_ := Aside0.mk ((by rw [hg]; exact (below_size (hB_)) : w.heap.size ≤ gb1054)); have n3_ := Aside0.mk ((by rw [hg]; exact (below_size (hB_)) : w.heap.size ≤ gb1054)); replace HB := n0_; have BK1054 := n1_; have GW1054 := n2_; have GE1054 := n3_; clear n0_ n1_ n2_ n3_; clear hb hbox hg; have hcz21_0 : w20.cell? ⟨gb1054, 0, none⟩ = some (.int .i64 a0_0) := (blk_cell BK1054.out 0).trans rfl; have hcz21_1 : w20.cell? ⟨gb1054, 1, none⟩ = some (.slice A0_1 l0_1.length c0_1) := (blk_cell BK1054.out 1).trans rfl; have hcz21_2 : w20.cell? ⟨gb1054, 2, none⟩ = some (.slice A0_2 l0_2.length c0_2) := (blk_cell BK1054.out 2).trans rfl; have hfz21_0 := blk_frozen BK1054.out 0; have hfz21_1 := blk_frozen BK1054.out 1; have hfz21_2 := blk_frozen BK1054.out 2) | ((with_reducible refine gate_callee (f := 53) rfl ?_); refine goesL_ (some 8) rfl rfl Tryd.func53 (by kernel_rfl) rfl #[.agg #[.int .i64 a0_0, .slice A0_1 l0_1.length c0_1, .slice A0_2 l0_2.length c0_2]] rfl aM_ ?_; (with_reducible refine (spec_SigOk.calls k a0_0 _ _ l0_1 _ _ l0_2 false _ ?side1 ?side2 ?side3 ?side4 A2.out).mono ?_); (case side1 => exact cR_ (Kd.C_below HR0_1.out HB.out)); (case side2 => exact HC0_1.out); (case side3 => exact cR_ (Kd.C_below HR0_2.out HB.out)); (case side4 => exact HC0_2.out); rintro e w22 ⟨rfl, hb⟩; refine ⟨_, rfl, ?_⟩; have n0_ := Aside0.mk (blk_below (g := gb1054) (o := .cells #[.int .i64 a0_0, .slice A0_1 l0_1.length c0_1, .slice A0_2 l0_2.length c0_2] 42 (0, 0)) (rK_ BK1054.out) hb); have n1_ := Aside0.mk (below_step (hS_ GE1054.out) hb); replace BK1054 := n0_; replace HB := n1_; clear n0_ n1_; (try clear hb)))
  go_ret2
  exact ⟨by first | rfl | (simp [errW_none, errW_some] <;> rfl) | (simp [*, errW_none, errW_some] <;> rfl), hS_ GE1054.out⟩

/-! ### spec_l02Spoilt: function 105 -/
def spec_l02Spoilt.j0 : Nat → ByteArray → Bool → List Int → Int → Int → Option (ByteArray × Int × Int)
 | 0, _, _, _, _, _ => none
 | k + 1, x1, x23, x1000, x1001, x1002 => if x23 = true then (if (x1.size : Int) > 0 then ((spec_l01Below.f x1000 x1001 x1002 (x1.size : Int)).bind fun bt1068 => (if 0 ≤ bt1068.1 then (if bt1068.1 ≤ (x1.size : Int) then ((spec_l01Text.f k x1000 bt1068.2.1 bt1068.2.2 1).bind fun bt1071 => (if (x1.extract 0 (bt1068.1 : Int).toNat).size + bt1071.1.size ≤ 9223372036854775807 then (if 0 ≤ (wrap64 (bt1068.1 + 1)) then (if (wrap64 (bt1068.1 + 1)) ≤ (x1.size : Int) then (if ((x1.extract 0 (bt1068.1 : Int).toNat) ++ bt1071.1).size + (x1.extract ((wrap64 (bt1068.1 + 1)) : Int).toNat x1.size).size ≤ 9223372036854775807 then (some (((x1.extract 0 (bt1068.1 : Int).toNat) ++ bt1071.1) ++ (x1.extract ((wrap64 (bt1068.1 + 1)) : Int).toNat x1.size), bt1071.2.1, bt1071.2.2)) else (none)) else (none)) else (none)) else (none))) else (none)) else (none))) else (some (x1, x1001, x1002))) else (some (x1, x1001, x1002))
def spec_l02Spoilt.f (k : Nat) (s0_0 : List Int) (s0_1 : Int) (s0_2 : Int) (a1 : ByteArray) : Option (ByteArray × Int × Int) := (spec_l01Below.f s0_0 s0_1 s0_2 12).bind fun bt1059 => (if bt1059.1 = 0 then ((spec_l01Text.f k s0_0 bt1059.2.1 bt1059.2.2 1).bind fun bt1062 => (if a1.size + bt1062.1.size ≤ 9223372036854775807 then (some (a1 ++ bt1062.1, bt1062.2.1, bt1062.2.2)) else (none))) else (if bt1059.1 = 1 then ((spec_l01Below.f s0_0 bt1059.2.1 bt1059.2.2 (wrap64 ((a1.size : Int) + 1))).bind fun bt1065 => (if 0 ≤ bt1065.1 then (if bt1065.1 ≤ (a1.size : Int) then (some (a1.extract 0 (bt1065.1 : Int).toNat, bt1065.2.1, bt1065.2.2)) else (none)) else (none))) else (if bt1059.1 = 2 then (spec_l02Spoilt.j0 k a1 (bt1059.1 == 2) s0_0 bt1059.2.1 bt1059.2.2) else (spec_l02Spoilt.j0 k a1 (bt1059.1 == 3) s0_0 bt1059.2.1 bt1059.2.2))))
theorem spec_l02Spoilt.mono_l : ∀ k, (∀ y0 y1 y2 y3 y4, LeO (spec_l02Spoilt.j0 k y0 y1 y2 y3 y4) (spec_l02Spoilt.j0 (k + 1) y0 y1 y2 y3 y4))
 | 0 => fun _ _ _ _ _ r h => by simp [spec_l02Spoilt.j0] at h
 | k + 1 => by
  have ih0 := spec_l02Spoilt.mono_l k
  ·intro y0 y1 y2 y3 y4
   unfold spec_l02Spoilt.j0
   repeat' first
   | (with_reducible exact ih0 _ _ _ _ _)
   | (with_reducible exact spec_l01Text.mono _ _ _ _ _)
   | (with_reducible exact LeO.refl _)
   | (with_reducible exact LeO.none _)
   | (with_reducible refine LeO.ite ?_ ?_)
   | (with_reducible refine LeO.bind ?_ (fun _ => ?_))
   | exact ih0 _ _ _ _ _
   | exact spec_l01Text.mono _ _ _ _ _
   | exact LeO.none _
   | refine LeO.ite ?_ ?_
   | refine LeO.bind ?_ (fun _ => ?_)
theorem spec_l02Spoilt.mono : ∀ a0 a1 a2 a3 k, LeO (spec_l02Spoilt.f k a0 a1 a2 a3) (spec_l02Spoilt.f (k + 1) a0 a1 a2 a3) := by
 intro a0 a1 a2 a3 k
 have ih0 := spec_l02Spoilt.mono_l k
 unfold spec_l02Spoilt.f
 repeat' first
   | (with_reducible exact ih0 _ _ _ _ _)
   | (with_reducible exact spec_l01Text.mono _ _ _ _ _)
   | (with_reducible exact LeO.refl _)
   | (with_reducible exact LeO.none _)
   | (with_reducible refine LeO.ite ?_ ?_)
   | (with_reducible refine LeO.bind ?_ (fun _ => ?_))
   | exact ih0 _ _ _ _ _
   | exact spec_l01Text.mono _ _ _ _ _
   | exact LeO.none _
   | refine LeO.ite ?_ ?_
   | refine LeO.bind ?_ (fun _ => ?_)
def spec_l02Spoilt.T10 : Bool × List (List Nat × List Nat) := (true, [([], []), ([], []), ([0, 1], [0, 1]), ([], []), ([3], [3]), ([2, 4], [2, 4]), ([], []), ([], []), ([7], [7]), ([6, 8], [6, 8]), ([5, 9], [5, 9]), ([10, 4, 0, 1, 2, 3, 4, 5, 6, 7, 8, 9, 10], [10])])
def spec_l02Spoilt.B10 : List Nat := [0, 0, 3, 0, 8, 31, 0, 0, 128, 448, 1023, 2047]
theorem spec_l02Spoilt.tab10 : rtab .any (opsOf Tryd.f105 10) = spec_l02Spoilt.T10 := by kernel_rfl
theorem spec_l02Spoilt.bits10 : waitsOk spec_l02Spoilt.T10.2 spec_l02Spoilt.B10 = true := by kernel_rfl
theorem spec_l02Spoilt.calls (k : Nat) (g : Nat) (s0_0 : List Int) (s0_1 : Int) (s0_2 : Int) (a1 : ByteArray) (r1 : ByteArray) (r2 : Int) (r3 : Int) (w0 w : World) (hI : IsS103 w0 w g s0_0 s0_1 s0_2) (hB : Below w0.heap.size w0 w) (h : spec_l02Spoilt.f k s0_0 s0_1 s0_2 a1 = some (r1, r2, r3)) :
  Calls Tryd.prog 105 #[.pointer (some ⟨g, 0, none⟩), .string a1] w fun e w' => e = .returned (.string r1) ∧ IsS103 w0 w' g s0_0 r2 r3 ∧ Below w0.heap.size w0 w' ∧ KeepBut w w' g none := by
 have HI0 := Aside0.mk hI
 have HK := Aside0.mk (KeepBut.refl w g none)
 have HL := Aside0.mk hB.size
 clear hI
 have HW0 := Aside0.mk hB.size
 have HB := Aside0.mk hB
 clear hB
 have H : ((spec_l01Below.f s0_0 s0_1 s0_2 12).bind fun bt1059 => (if bt1059.1 = 0 then ((spec_l01Text.f k s0_0 bt1059.2.1 bt1059.2.2 1).bind fun bt1062 => (if a1.size + bt1062.1.size ≤ 9223372036854775807 then (some (a1 ++ bt1062.1, bt1062.2.1, bt1062.2.2)) else (none))) else (if bt1059.1 = 1 then ((spec_l01Below.f s0_0 bt1059.2.1 bt1059.2.2 (wrap64 ((a1.size : Int) + 1))).bind fun bt1065 => (if 0 ≤ bt1065.1 then (if bt1065.1 ≤ (a1.size : Int) then (some (a1.extract 0 (bt1065.1 : Int).toNat, bt1065.2.1, bt1065.2.2)) else (none)) else (none))) else (if bt1059.1 = 2 then (spec_l02Spoilt.j0 k a1 (bt1059.1 == 2) s0_0 bt1059.2.1 bt1059.2.2) else (spec_l02Spoilt.j0 k a1 (bt1059.1 == 3) s0_0 bt1059.2.1 bt1059.2.2))))) = some (r1, r2, r3) := h
 clear h
 replace H := Option.bind_eq_some_iff.mp H
 obtain ⟨⟨t1059, t1060, t1061⟩, A30, H⟩ := H
 try dsimp -simprocs only at H
 have A3 := Aside0.mk A30
 clear A30
 by_cases c4 : t1059 = 0
 ·rw [if_pos c4] at H
  have c4b0 : (t1059 == 0) = true := beq_iff_eq.mpr c4
  have c4b1 : (t1059 != 0) = false := bne_eq_false_iff_eq.mpr c4
  clear c4
  replace H := Option.bind_eq_some_iff.mp H
  obtain ⟨⟨t1062, t1063, t1064⟩, A50, H⟩ := H
  try dsimp -simprocs only at H
  have A5 := Aside0.mk A50
  clear A50
  obtain ⟨c6, H⟩ := iN_ H
  have c6b0 := eq_true c6
  have c6b1 := decide_eq_true c6
  try have c6b2 : (9223372036854775807 < a1.size + t1062.size) = False := eq_false (Nat.not_lt.2 c6)
  simp only [Option.some.injEq, Prod.mk.injEq] at H
  obtain ⟨rfl, rfl, rfl⟩ := H
  go_enter Tryd.func105, Tryd.ntmps105
  go_wp2_with (first | ((with_reducible refine gate_callee (f := 96) rfl ?_); refine goesL_ (some 7) rfl rfl Tryd.func96 (by kernel_rfl) rfl #[.pointer (some ⟨g, 0, none⟩), .int .i64 12] rfl aM_ ?_; (with_reducible refine (spec_l01Below.calls g s0_0 s0_1 s0_2 12 t1059 t1060 t1061 w0 _ ?side1 ?side2 A3.out).mono ?_); (case side1 => exact u1_); (case side2 => exact u3_ (IsS103.ge HI0.out)); rintro e w7 ⟨rfl, hi, hb, hk⟩; refine ⟨_, rfl, ?_⟩; have n0_ := Aside0.mk (KeepBut.trans ((u2_)) hk (.inl rfl)); have n1_ := Aside0.mk (hb); have n2_ := Aside0.mk (hi); replace HK := n0_; replace HB := n1_; replace HI0 := n2_; clear n0_ n1_ n2_; (try clear hb); (try clear hk); (try clear hi)) | ((with_reducible refine gate_callee (f := 95) rfl ?_); refine goesL_ (some 12) rfl rfl Tryd.func95 (by kernel_rfl) rfl #[.pointer (some ⟨g, 0, none⟩), .int .i64 1] rfl aM_ ?_; (with_reducible refine (spec_l01Text.calls k g s0_0 t1060 t1061 1 t1062 t1063 t1064 w0 _ ?side1 ?side2 A5.out).mono ?_); (case side1 => exact u1_); (case side2 => exact u3_ (IsS103.ge HI0.out)); rintro e w8 ⟨rfl, hi, hb, hk⟩; refine ⟨_, rfl, ?_⟩; have n0_ := Aside0.mk (KeepBut.trans ((u2_)) hk (.inl rfl)); have n1_ := Aside0.mk (hb); have n2_ := Aside0.mk (hi); replace HK := n0_; replace HB := n1_; replace HI0 := n2_; clear n0_ n1_ n2_; (try clear hb); (try clear hk); (try clear hi)))
  go_ret
  exact ⟨by first | rfl | (simp [errW_none, errW_some] <;> rfl) | (simp [*, errW_none, errW_some] <;> rfl), (u1_), (u3_ (IsS103.ge HI0.out)), (u2_)⟩
 rw [if_neg c4] at H
 have c4b0 : (t1059 == 0) = false := beq_eq_false_iff_ne.mpr c4
 have c4b1 : (t1059 != 0) = true := bne_iff_ne.mpr c4
 by_cases c9 : t1059 = 1
 ·rw [if_pos c9] at H
  have c9b0 : (t1059 == 1) = true := beq_iff_eq.mpr c9
  have c9b1 : (t1059 != 1) = false := bne_eq_false_iff_eq.mpr c9
  clear c9
  replace H := Option.bind_eq_some_iff.mp H
  obtain ⟨⟨t1065, t1066, t1067⟩, A100, H⟩ := H
  try dsimp -simprocs only at H
  have A10 := Aside0.mk A100
  clear A100
  obtain ⟨c11, H⟩ := iN_ H
  have c11b0 := eq_true c11
  have c11b1 := decide_eq_true c11
  clear c11
  obtain ⟨c12, H⟩ := iN_ H
  have c12b0 := eq_true c12
  have c12b1 := decide_eq_true c12
  clear c12
  simp only [Option.some.injEq, Prod.mk.injEq] at H
  obtain ⟨rfl, rfl, rfl⟩ := H
  go_enter Tryd.func105, Tryd.ntmps105
  go_wp2_with (first | ((with_reducible refine gate_callee (f := 96) rfl ?_); refine goesL_ (some 7) rfl rfl Tryd.func96 (by kernel_rfl) rfl #[.pointer (some ⟨g, 0, none⟩), .int .i64 12] rfl aM_ ?_; (with_reducible refine (spec_l01Below.calls g s0_0 s0_1 s0_2 12 t1059 t1060 t1061 w0 _ ?side1 ?side2 A3.out).mono ?_); (case side1 => exact u1_); (case side2 => exact u3_ (IsS103.ge HI0.out)); rintro e w13 ⟨rfl, hi, hb, hk⟩; refine ⟨_, rfl, ?_⟩; have n0_ := Aside0.mk (KeepBut.trans ((u2_)) hk (.inl rfl)); have n1_ := Aside0.mk (hb); have n2_ := Aside0.mk (hi); replace HK := n0_; replace HB := n1_; replace HI0 := n2_; clear n0_ n1_ n2_; (try clear hb); (try clear hk); (try clear hi)) | ((with_reducible refine gate_callee (f := 96) rfl ?_); refine goesL_ (some 21) rfl rfl Tryd.func96 (by kernel_rfl) rfl #[.pointer (some ⟨g, 0, none⟩), .int .i64 (wrap64 ((a1.size : Int) + 1))] rfl aM_ ?_; (with_reducible refine (spec_l01Below.calls g s0_0 t1060 t1061 (wrap64 ((a1.size : Int) + 1)) t1065 t1066 t1067 w0 _ ?side1 ?side2 A10.out).mono ?_); (case side1 => exact u1_); (case side2 => exact u3_ (IsS103.ge HI0.out)); rintro e w14 ⟨rfl, hi, hb, hk⟩; refine ⟨_, rfl, ?_⟩; have n0_ := Aside0.mk (KeepBut.trans ((u2_)) hk (.inl rfl)); have n1_ := Aside0.mk (hb); have n2_ := Aside0.mk (hi); replace HK := n0_; replace HB := n1_; replace HI0 := n2_; clear n0_ n1_ n2_; (try clear hb); (try clear hk); (try clear hi)))
  go_ret
  exact ⟨by first | rfl | (simp [errW_none, errW_some] <;> rfl) | (simp [*, errW_none, errW_some] <;> rfl), (u1_), (u3_ (IsS103.ge HI0.out)), (u2_)⟩
 rw [if_neg c9] at H
 have c9b0 : (t1059 == 1) = false := beq_eq_false_iff_ne.mpr c9
 have c9b1 : (t1059 != 1) = true := bne_iff_ne.mpr c9
 have HC15 := Aside0.mk H
 clear H
 go_enter Tryd.func105, Tryd.ntmps105
 go_upto_if 23 with (first | ((with_reducible refine gate_callee (f := 96) rfl ?_); refine goesL_ (some 7) rfl rfl Tryd.func96 (by kernel_rfl) rfl #[.pointer (some ⟨g, 0, none⟩), .int .i64 12] rfl aM_ ?_; (with_reducible refine (spec_l01Below.calls g s0_0 s0_1 s0_2 12 t1059 t1060 t1061 w0 _ ?side1 ?side2 A3.out).mono ?_); (case side1 => exact u1_); (case side2 => exact u3_ (IsS103.ge HI0.out)); rintro e w16 ⟨rfl, hi, hb, hk⟩; refine ⟨_, rfl, ?_⟩; have n0_ := Aside0.mk (KeepBut.trans ((u2_)) hk (.inl rfl)); have n1_ := Aside0.mk (hb); have n2_ := Aside0.mk (hi); replace HK := n0_; replace HB := n1_; replace HI0 := n2_; clear n0_ n1_ n2_; (try clear hb); (try clear hk); (try clear hi)))
 (try simp only [Act.put, List.setIfInBounds_toArray, List.set_cons_zero, List.set_cons_succ])
 go_cut [23] (fun v23 wc => ∃ (kq : Nat) (x23_14 : Bool), v23 = .bool x23_14 ∧ Aside0 (spec_l02Spoilt.j0 kq a1 x23_14 s0_0 t1060 t1061 = some (r1, r2, r3)) ∧ Aside0 (kq ≤ k) ∧ Aside0 (IsS103 w0 wc g s0_0 t1060 t1061) ∧ Aside0 (KeepBut w wc g none) ∧ Aside0 (Below w0.heap.size w0 wc))
 case first =>
  have H := HC15.out
  clear HC15
  by_cases c17 : t1059 = 2
  ·rw [if_pos c17] at H
   have c17b0 : (t1059 == 2) = true := beq_iff_eq.mpr c17
   have c17b1 : (t1059 != 2) = false := bne_eq_false_iff_eq.mpr c17
   clear c17
   (first | rw [c17b0] | (simp only [i64_w, i32_w]; rw [c17b0]) | skip)
   have H' := Aside0.mk H
   clear H
   go_wp2
   go_meet
   case rel => exact ⟨_, ((t1059 == 2)), (by first | rfl | (simp; done) | (simp [*]; done)), H', ⟨by first | omega | exact Nat.le_refl _⟩, ⟨(u1_)⟩, ⟨(u2_)⟩, ⟨(u3_ (IsS103.ge HI0.out))⟩⟩
  rw [if_neg c17] at H
  have c17b0 : (t1059 == 2) = false := beq_eq_false_iff_ne.mpr c17
  have c17b1 : (t1059 != 2) = true := bne_iff_ne.mpr c17
  (first | rw [c17b0] | (simp only [i64_w, i32_w]; rw [c17b0]) | skip)
  have H' := Aside0.mk H
  clear H
  go_wp2
  go_meet
  case rel => exact ⟨_, ((t1059 == 3)), (by first | rfl | (simp; done) | (simp [*]; done)), H', ⟨by first | omega | exact Nat.le_refl _⟩, ⟨(u1_)⟩, ⟨(u2_)⟩, ⟨(u3_ (IsS103.ge HI0.out))⟩⟩
 case rest =>
  clear HC15
  try clear c1
  try clear p2
  try clear c4
  try clear c4b0
  try clear c4b1
  try clear c6
  try clear c6b0
  try clear c6b1
  try clear c6b2
  try clear p6
  try clear c9
  try clear c9b0
  try clear c9b1
  try clear c10
  try clear c11
  try clear c11b0
  try clear c11b1
  try clear c12
  try clear c12b0
  try clear c12b1
  try clear c17
  try clear c17b0
  try clear c17b1
  obtain ⟨kq, x23_14, rfl, HA, HJ14, HI0, HK, HB⟩ := hcut
  cases kq with
  | zero => exact absurd HA.out (by simp [spec_l02Spoilt.j0])
  | succ kj14 =>
   have H := HA.out
   clear HA
   simp only [spec_l02Spoilt.j0] at H
   by_cases c18 : x23_14 = true
   ·subst c18
    have H1 : (if (a1.size : Int) > 0 then ((spec_l01Below.f s0_0 t1060 t1061 (a1.size : Int)).bind fun bt1068 => (if 0 ≤ bt1068.1 then (if bt1068.1 ≤ (a1.size : Int) then ((spec_l01Text.f kj14 s0_0 bt1068.2.1 bt1068.2.2 1).bind fun bt1071 => (if (a1.extract 0 (bt1068.1 : Int).toNat).size + bt1071.1.size ≤ 9223372036854775807 then (if 0 ≤ (wrap64 (bt1068.1 + 1)) then (if (wrap64 (bt1068.1 + 1)) ≤ (a1.size : Int) then (if ((a1.extract 0 (bt1068.1 : Int).toNat) ++ bt1071.1).size + (a1.extract ((wrap64 (bt1068.1 + 1)) : Int).toNat a1.size).size ≤ 9223372036854775807 then (some (((a1.extract 0 (bt1068.1 : Int).toNat) ++ bt1071.1) ++ (a1.extract ((wrap64 (bt1068.1 + 1)) : Int).toNat a1.size), bt1071.2.1, bt1071.2.2)) else (none)) else (none)) else (none)) else (none))) else (none)) else (none))) else (some (a1, t1060, t1061))) = some (r1, r2, r3) := by rw [if_pos rfl] at H; exact H
    clear H
    have H := H1
    clear H1
    by_cases c19 : (a1.size : Int) > 0
    rotate_left
    ·rw [if_neg c19] at H
     have c19b0 := decide_eq_false c19
     have c19b1 : decide (0 < a1.size) = false := decide_eq_false (by omega)
     clear c19
     simp only [Option.some.injEq, Prod.mk.injEq] at H
     obtain ⟨rfl, rfl, rfl⟩ := H
     go_wp2
     go_ret
     exact ⟨by first | rfl | (simp [errW_none, errW_some] <;> rfl) | (simp [*, errW_none, errW_some] <;> rfl), (u1_), (u3_ (IsS103.ge HI0.out)), (u2_)⟩
    rw [if_pos c19] at H
    have c19b0 := decide_eq_true c19
    have c19b1 : decide (0 < a1.size) = true := decide_eq_true (by omega)
    clear c19
    replace H := Option.bind_eq_some_iff.mp H
    obtain ⟨⟨t1068, t1069, t1070⟩, A200, H⟩ := H
    try dsimp -simprocs only at H
    have A20 := Aside0.mk A200
    clear A200
    obtain ⟨c21, H⟩ := iN_ H
    have c21b0 := eq_true c21
    have c21b1 := decide_eq_true c21
    clear c21
    obtain ⟨c22, H⟩ := iN_ H
    have c22b0 := eq_true c22
    have c22b1 := decide_eq_true c22
    clear c22
    replace H := Option.bind_eq_some_iff.mp H
    obtain ⟨⟨t1071, t1072, t1073⟩, A230, H⟩ := H
    try dsimp -simprocs only at H
    have A23 := Aside0.mk A230
    clear A230
    obtain ⟨c24, H⟩ := iN_ H
    have c24b0 := eq_true c24
    have c24b1 := decide_eq_true c24
    try have c24b2 : (9223372036854775807 < (a1.extract 0 (t1068 : Int).toNat).size + t1071.size) = False := eq_false (Nat.not_lt.2 c24)
    have c_x1 : (9223372036854775807 < t1068.toNat + t1071.size) = False := by
     have h_ := of_decide_eq_true c22b1
     have e_ : (a1.extract 0 t1068.toNat).size = t1068.toNat := by rw [ByteArray.size_extract]; omega
     rw [← e_]; exact c24b2
    obtain ⟨ji25, hji25⟩ : ∃ j_ : Int, (wrap64 (t1068 + 1)) = j_ := ⟨_, rfl⟩
    first | rw [hji25] at H | simp only [hji25] at H
    (try rw [hji25] at A20)
    (try rw [hji25] at A23)
    have hji25w : (IntKind.i64.wrap (t1068 + 1)) = ji25 := (i64_w _).trans hji25
    obtain ⟨c26, H⟩ := iN_ H
    have c26b0 := eq_true c26
    have c26b1 := decide_eq_true c26
    clear c26
    obtain ⟨c27, H⟩ := iN_ H
    have c27b0 := eq_true c27
    have c27b1 := decide_eq_true c27
    clear c27
    obtain ⟨c28, H⟩ := iN_ H
    have c28b0 := eq_true c28
    have c28b1 := decide_eq_true c28
    try have c28b2 : (9223372036854775807 < ((a1.extract 0 (t1068 : Int).toNat) ++ t1071).size + (a1.extract ((ji25) : Int).toNat a1.size).size) = False := eq_false (Nat.not_lt.2 c28)
    try (have c28b9 : (9223372036854775807 < ((a1.extract 0 (t1068 : Int).toNat) ++ t1071).size + (a1.extract ((ji25) : Int).toNat a1.size).size) = False := c28b2; simp only [ByteArray.size_append] at c28b9)
    have c_x2 : (9223372036854775807 < t1068.toNat + t1071.size + (a1.size - ji25.toNat)) = False := by
     have h_ := of_decide_eq_true c22b1
     have h2_ := of_decide_eq_true c27b1
     have e_ : (a1.extract 0 t1068.toNat ++ t1071).size = t1068.toNat + t1071.size := by rw [ByteArray.size_append, ByteArray.size_extract]; omega
     have e2_ : (a1.extract ji25.toNat a1.size).size = a1.size - ji25.toNat := by rw [ByteArray.size_extract]; omega
     rw [← e_, ← e2_]; exact c28b2
    simp only [Option.some.injEq, Prod.mk.injEq] at H
    obtain ⟨rfl, rfl, rfl⟩ := H
    try go_wp2_with (first | ((with_reducible refine gate_callee (f := 96) rfl ?_); refine goesL_ (some 32) rfl rfl Tryd.func96 (by kernel_rfl) rfl #[.pointer (some ⟨g, 0, none⟩), .int .i64 (a1.size : Int)] rfl aM_ ?_; (with_reducible refine (spec_l01Below.calls g s0_0 t1060 t1061 (a1.size : Int) t1068 t1069 t1070 w0 _ ?side1 ?side2 A20.out).mono ?_); (case side1 => exact u1_); (case side2 => exact u3_ (IsS103.ge HI0.out)); rintro e w29 ⟨rfl, hi, hb, hk⟩; refine ⟨_, rfl, ?_⟩; have n0_ := Aside0.mk (KeepBut.trans ((u2_)) hk (.inl rfl)); have n1_ := Aside0.mk (hb); have n2_ := Aside0.mk (hi); replace HK := n0_; replace HB := n1_; replace HI0 := n2_; clear n0_ n1_ n2_; (try clear hb); (try clear hk); (try clear hi)))
    have n0_ := Aside0.mk (IsS103.drew HI0.out)
    have n1_ := Aside0.mk (keep_drew HK.out)
    have n2_ := Aside0.mk (below_drew1 HB.out)
    clear HI0
    clear HK
    clear HB
    have HI0 := n0_
    have HK := n1_
    have HB := n2_
    clear n0_ n1_ n2_
    refine start_ (n := 12) (S := fun w' => True) (ds := []) (bb_ 12 0) (by kernel_rfl) rfl rfl trivial (fun hHeld => ?_); refine with_tabW spec_l02Spoilt.tab10 spec_l02Spoilt.bits10 (fun HT_ HW_ => ?_)
    generalize w29.drew = w30 at HI0 HK HB hHeld ⊢
    refine pS_ 0 33 (bb_ 12 1) HT_.out ?_
    refine pS_ 1 34 (bb_ 12 3) HT_.out ?_
    refine pS_ 2 35 (bb_ 12 7) HT_.out ?_
    refine pS_ 3 36 (bb_ 12 15) HT_.out ?_
    refine pS_ 6 39 (bb_ 12 79) HT_.out ?_
    refine pS_ 7 40 (bb_ 12 207) HT_.out ?_
    refine pS_ 8 41 (bb_ 12 463) HT_.out ?_
    refine pS_ 9 42 (bb_ 12 975) HT_.out ?_
    refine one_ (i := 4) (N := some 37) (bb_ 12 991) rfl rfl (one_of HT_.out (by kernel_rfl)) (by decide) (fun K hK => ?_)
    refine goes_ Tryd.func95 (by kernel_rfl) rfl #[.pointer (some ⟨g, 0, none⟩), .int .i64 1] (by rfl) rfl rfl aM_ ?_
    with_reducible refine (spec_l01Text.calls kj14 g s0_0 t1069 t1070 1 t1071 t1072 t1073 w0 _ ?side1 ?side2 A23.out).mono ?_
    (case side1 => exact u1_)
    (case side2 => exact u3_ (IsS103.ge HI0.out))
    rintro e w31 ⟨rfl, hi, hb, hk⟩
    refine ⟨_, rfl, ?_⟩
    have n0_ := Aside0.mk (KeepBut.trans ((u2_)) hk (.inl rfl))
    have n1_ := Aside0.mk (hb)
    have n2_ := Aside0.mk (hi)
    clear HK
    clear HB
    clear HI0
    have HK := n0_
    have HB := n1_
    have HI0 := n2_
    clear n0_ n1_ n2_
    (try clear hb)
    (try clear hb2)
    (try clear hk)
    (try clear hi)
    refine hK.out _ _ trivial (fun hHeld => ?_)
    clear hK K
    refine norm_ (a' := ?_) ?_ ?_
    rotate_left
    ·show Act.put _ (some 37) _ = _
     simp only [Act.put, List.setIfInBounds_toArray, List.set_cons_zero, List.set_cons_succ, i64_w, i32_w]
     rfl
    refine pS_ 5 38 (bb_ 12 1023) HT_.out ?_
    refine pS_ 10 43 (bb_ 12 2047) HT_.out ?_
    refine pS_ 11 4 (bb_ 12 4095) HT_.out ?_
    refine done_ (done_of HT_.out (by kernel_rfl)) ?_
    try go_wp2
    go_ret
    exact ⟨by first | rfl | (simp [errW_none, errW_some] <;> rfl) | (simp only [← hji25]; first | rfl | (simp [errW_none, errW_some] <;> rfl)) | (simp [*, errW_none, errW_some] <;> rfl), (u1_), (u3_ (IsS103.ge HI0.out)), (u2_)⟩
   ·replace c18 := Bool.eq_false_iff.mpr c18
    subst c18
    have H1 : (some (a1, t1060, t1061)) = some (r1, r2, r3) := by rw [if_neg (show ¬ (false = true) by decide)] at H; exact H
    clear H
    have H := H1
    clear H1
    simp only [Option.some.injEq, Prod.mk.injEq] at H
    obtain ⟨rfl, rfl, rfl⟩ := H
    go_wp2
    go_ret
    exact ⟨by first | rfl | (simp [errW_none, errW_some] <;> rfl) | (simp [*, errW_none, errW_some] <;> rfl), (u1_), (u3_ (IsS103.ge HI0.out)), (u2_)⟩

/-! ### spec_ReadSig: function 55 -/
mutual
def spec_ReadSig.j0 : Nat → ByteArray → Bool → Option (Int × List ByteArray × List ByteArray × Bool)
 | 0, _, _ => none
 | k + 1, x0, x15 => if x15 = true then (some (0, ([] : List ByteArray), ([] : List ByteArray), false)) else (if 0 < (x0.size : Int) then (spec_ReadSig.l0 k x0 0 (wrap64 (bt x0 0)) ([] : List ByteArray) ([] : List ByteArray)) else (none))
def spec_ReadSig.l0 : Nat → ByteArray → Int → Int → List ByteArray → List ByteArray → Option (Int × List ByteArray × List ByteArray × Bool)
 | 0, _, _, _, _, _ => none
 | k + 1, x0, x5, x1097000, x1097001, x1097002 => if x5 < 12 then (if 0 ≤ (wrap64 (1 + (wrap64 (x5 * 4)))) then (if (wrap64 (1 + (wrap64 (x5 * 4)))) ≤ (wrap64 (1 + (wrap64 ((wrap64 (x5 + 1)) * 4)))) then (if (wrap64 (1 + (wrap64 ((wrap64 (x5 + 1)) * 4)))) ≤ (x0.size : Int) then (if x5 < 10 then (if x1097001.length < 8796093022208 then (spec_ReadSig.l0 k x0 (wrap64 (x5 + 1)) x1097000 (x1097001 ++ [x0.extract ((wrap64 (1 + (wrap64 (x5 * 4)))) : Int).toNat ((wrap64 (1 + (wrap64 ((wrap64 (x5 + 1)) * 4)))) : Int).toNat]) x1097002) else (none)) else (if x1097002.length < 8796093022208 then (spec_ReadSig.l0 k x0 (wrap64 (x5 + 1)) x1097000 x1097001 (x1097002 ++ [x0.extract ((wrap64 (1 + (wrap64 (x5 * 4)))) : Int).toNat ((wrap64 (1 + (wrap64 ((wrap64 (x5 + 1)) * 4)))) : Int).toNat])) else (none))) else (none)) else (none)) else (none)) else (some (x1097000, x1097001, x1097002, true))
end
def spec_ReadSig.f (k : Nat) (a0 : ByteArray) : Option (Int × List ByteArray × List ByteArray × Bool) := if (a0.size : Int) = 49 then (if 0 < (a0.size : Int) then (spec_ReadSig.j0 k a0 (decide ((wrap64 (bt a0 0)) ≥ 4))) else (none)) else (spec_ReadSig.j0 k a0 true)
theorem spec_ReadSig.mono_l : ∀ k, (∀ y0 y1, LeO (spec_ReadSig.j0 k y0 y1) (spec_ReadSig.j0 (k + 1) y0 y1)) ∧ (∀ y0 y1 y2 y3 y4, LeO (spec_ReadSig.l0 k y0 y1 y2 y3 y4) (spec_ReadSig.l0 (k + 1) y0 y1 y2 y3 y4))
 | 0 => ⟨fun _ _ r h => by simp [spec_ReadSig.j0] at h, fun _ _ _ _ _ r h => by simp [spec_ReadSig.l0] at h⟩
 | k + 1 => by
  obtain ⟨ih0, ih1⟩ := spec_ReadSig.mono_l k
  refine ⟨?_, ?_⟩
  ·intro y0 y1
   unfold spec_ReadSig.j0
   repeat' first
   | (with_reducible exact ih0 _ _)
   | (with_reducible exact ih1 _ _ _ _ _)
   | (with_reducible exact LeO.refl _)
   | (with_reducible exact LeO.none _)
   | (with_reducible refine LeO.ite ?_ ?_)
   | (with_reducible refine LeO.bind ?_ (fun _ => ?_))
  ·intro y0 y1 y2 y3 y4
   unfold spec_ReadSig.l0
   repeat' first
   | (with_reducible exact ih0 _ _)
   | (with_reducible exact ih1 _ _ _ _ _)
   | (with_reducible exact LeO.refl _)
   | (with_reducible exact LeO.none _)
   | (with_reducible refine LeO.ite ?_ ?_)
   | (with_reducible refine LeO.bind ?_ (fun _ => ?_))
theorem spec_ReadSig.mono : ∀ a0 k, LeO (spec_ReadSig.f k a0) (spec_ReadSig.f (k + 1) a0) := by
 intro a0 k
 obtain ⟨ih0, ih1⟩ := spec_ReadSig.mono_l k
 unfold spec_ReadSig.f
 repeat' first
   | (with_reducible exact ih0 _ _)
   | (with_reducible exact ih1 _ _ _ _ _)
   | (with_reducible exact LeO.refl _)
   | (with_reducible exact LeO.none _)
   | (with_reducible refine LeO.ite ?_ ?_)
   | (with_reducible refine LeO.bind ?_ (fun _ => ?_))
theorem spec_ReadSig.calls (k : Nat) (a0 : ByteArray) (r1 : Int) (r2 : List ByteArray) (r3 : List ByteArray) (r4 : Bool) (w : World) (h : spec_ReadSig.f k a0 = some (r1, r2, r3, r4)) :
  Calls Tryd.prog 55 #[.string a0] w fun e w' => ∃ v1_ v2_ : Value, e = .returned (.tuple #[.agg #[.int .i64 r1, v1_, v2_], .bool r4]) ∧ Kd.R Kd.string 9 w' w.heap.size (fun k_ => some k_ ≠ (v2_ : Value).ownBlock) v1_ r2 ∧ Kd.R Kd.string 9 w' w.heap.size (fun k_ => some k_ ≠ (v1_ : Value).ownBlock) v2_ r3 ∧ Below w.heap.size w w' := by
 have hu42 := Tryd.underlying42
 have HB := Aside0.mk (Below.refl w.heap.size w)
 have H : (if (a0.size : Int) = 49 then (if 0 < (a0.size : Int) then (spec_ReadSig.j0 k a0 (decide ((wrap64 (bt a0 0)) ≥ 4))) else (none)) else (spec_ReadSig.j0 k a0 true)) = some (r1, r2, r3, r4) := h
 clear h
 have HC2 := Aside0.mk H
 clear H
 go_enter Tryd.func55, Tryd.ntmps55
 go_upto_region 1 with (first | ((with_reducible refine gate_dst (N := 2) rfl ?_); refine box_event ?hg (N := 2) ?hd (cs := #[.int .i64 0, .slice none 0 0, .slice none 0 0]) (t := 42) ?hr ?_; (case hd => rfl); (case hg => rfl); (case hr => first | (go_simp; done) | (go_simp; rfl)); intro gb1095 hg w3 hbox hb; have n0_ := Aside0.mk (below_step (hB_) hb); have n1_ := Aside0.mk (hbox); have n2_ := Aside0.mk ((by rw [hg]; exact (below_size (hB_)) : w.heap.size ≤ gb1095)); have n3_ := Aside0.mk ((by rw [hg]; exact (below_size (hB_)) : w.heap.size ≤ gb1095)); replace HB := n0_; have BK1095 := n1_; have GW1095 := n2_; have GE1095 := n3_; clear n0_ n1_ n2_ n3_; clear hb hbox hg))
 (try simp only [Act.put, List.setIfInBounds_toArray, List.set_cons_zero, List.set_cons_succ])
 go_cut [15] (fun v15 wc => ∃ (kq : Nat) (x15_1 : Bool), v15 = .bool x15_1 ∧ Aside0 (spec_ReadSig.j0 kq a0 x15_1 = some (r1, r2, r3, r4)) ∧ Aside0 (kq ≤ k) ∧ Aside0 (wc.heap[gb1095]? = some (.cells #[.int .i64 0, (.slice none 0 0), (.slice none 0 0)] 42 (0, 0))) ∧ Aside0 (Below w.heap.size w wc))
 case first =>
  have H := HC2.out
  clear HC2
  by_cases c4 : (a0.size : Int) = 49
  ·rw [if_pos c4] at H
   have c4b0 : ((a0.size : Int) == 49) = true := beq_iff_eq.mpr c4
   have c4b1 : ((a0.size : Int) != 49) = false := bne_eq_false_iff_eq.mpr c4
   clear c4
   (first | rw [c4b0] | (simp only [i64_w, i32_w]; rw [c4b0]) | skip)
   obtain ⟨c5, H⟩ := iN_ H
   have c5b0 := decide_eq_true c5
   have c5b1 : decide (0 < a0.size) = true := decide_eq_true (by omega)
   clear c5
   have H' := Aside0.mk H
   clear H
   have p6 : 0 ≤ (0 : Int) := (by omega)
   have q6 : 0 < a0.size := (by have : (0 : Int) < (a0.size : Int) := of_decide_eq_true (by first | (with_reducible assumption) | assumption); omega)
   have hx6 : ∀ h : 0 < a0.size, ((a0[0]'h).toNat : Int) = bt a0 0 := bt_at a0 0
   clear p6
   have qi6 : (0 < (a0.size : Int)) = True := eq_true (of_decide_eq_true (by first | (with_reducible assumption) | assumption))
   replace q6 := eq_true q6
   go_wp2
   go_meet
   case rel => exact ⟨_, (decide ((wrap64 (bt a0 0)) ≥ 4)), (by first | rfl | (simp; done) | (simp [*]; done)), H', ⟨by first | omega | exact Nat.le_refl _⟩, ⟨by refine kK_ ?_; exact BK1095.out⟩, ⟨hS_ GE1095.out⟩⟩
  rw [if_neg c4] at H
  have c4b0 : ((a0.size : Int) == 49) = false := beq_eq_false_iff_ne.mpr c4
  have c4b1 : ((a0.size : Int) != 49) = true := bne_iff_ne.mpr c4
  (first | rw [c4b0] | (simp only [i64_w, i32_w]; rw [c4b0]) | skip)
  have H' := Aside0.mk H
  clear H
  go_wp2
  go_meet
  case rel => exact ⟨_, (true), (by first | rfl | (simp; done) | (simp [*]; done)), H', ⟨by first | omega | exact Nat.le_refl _⟩, ⟨by refine kK_ ?_; exact BK1095.out⟩, ⟨hS_ GE1095.out⟩⟩
 case rest =>
  clear HC2
  try clear p2
  try clear c4
  try clear c4b0
  try clear c4b1
  try clear c5
  try clear c5b0
  try clear c5b1
  try clear p6
  try clear q6
  try clear hx6
  try clear qi6
  try clear p6
  try clear q6
  obtain ⟨kq, x15_1, rfl, HA, HJ1, BK1095, HB⟩ := hcut
  cases kq with
  | zero => exact absurd HA.out (by simp [spec_ReadSig.j0])
  | succ kj1 =>
   have H := HA.out
   clear HA
   simp only [spec_ReadSig.j0] at H
   by_cases c7 : x15_1 = true
   ·subst c7
    have H1 : (some (0, ([] : List ByteArray), ([] : List ByteArray), false)) = some (r1, r2, r3, r4) := by rw [if_pos rfl] at H; exact H
    clear H
    have H := H1
    clear H1
    simp only [Option.some.injEq, Prod.mk.injEq] at H
    obtain ⟨rfl, rfl, rfl, rfl⟩ := H
    have hcz8_0 : wc.cell? ⟨gb1095, 0, none⟩ = some (.int .i64 0) := (blk_cell BK1095.out 0).trans rfl
    have hcz8_1 : wc.cell? ⟨gb1095, 1, none⟩ = some (.slice none 0 0) := (blk_cell BK1095.out 1).trans rfl
    have hcz8_2 : wc.cell? ⟨gb1095, 2, none⟩ = some (.slice none 0 0) := (blk_cell BK1095.out 2).trans rfl
    have hfz8_0 := blk_frozen BK1095.out 0
    have hfz8_1 := blk_frozen BK1095.out 1
    have hfz8_2 := blk_frozen BK1095.out 2
    go_wp2
    refine bodyPost_ret (results_ct rfl _ _ gb1095 42 #[.int .i64 0, .slice none 0 0, .slice none 0 0] (0, 0) _ rfl (by refine kK_ ?_; refine blk_put (cs := #[.int .i64 0, .slice none 0 0, .slice none 0 0]) ?_ 2 _ rfl; refine kK_ ?_; refine blk_put (cs := #[.int .i64 0, .slice none 0 0, .slice none 0 0]) ?_ 1 _ rfl; refine kK_ ?_; refine blk_put (cs := #[.int .i64 0, .slice none 0 0, .slice none 0 0]) ?_ 0 _ rfl; exact rK_ BK1095.out) Tryd.underlying42 rfl (by kernel_rfl)) rfl ?_
    exact ⟨_, _, by first | rfl | (simp [errW_none, errW_some] <;> rfl) | (simp [*, errW_none, errW_some] <;> rfl), by first | exact Kd.R_nil _ _ _ _ _ | exact Kd.N_nil _ _ _ _ _ | exact Kd.V_nil _ _ _ _ _ | exact Kd.Q_nil _ _ _ _ _ | exact Kd.S_nil _ _ _ _ _, by first | exact Kd.R_nil _ _ _ _ _ | exact Kd.N_nil _ _ _ _ _ | exact Kd.V_nil _ _ _ _ _ | exact Kd.Q_nil _ _ _ _ _ | exact Kd.S_nil _ _ _ _ _, hS_ GE1095.out⟩
   ·replace c7 := Bool.eq_false_iff.mpr c7
    subst c7
    have H1 : (if 0 < (a0.size : Int) then (spec_ReadSig.l0 kj1 a0 0 (wrap64 (bt a0 0)) ([] : List ByteArray) ([] : List ByteArray)) else (none)) = some (r1, r2, r3, r4) := by rw [if_neg (show ¬ (false = true) by decide)] at H; exact H
    clear H
    have H := H1
    clear H1
    obtain ⟨c9, H⟩ := iN_ H
    have c9b0 := decide_eq_true c9
    have c9b1 : decide (0 < a0.size) = true := decide_eq_true (by omega)
    clear c9
    have H' := Aside0.mk H
    clear H
    have p10 : 0 ≤ (0 : Int) := (by omega)
    have q10 : 0 < a0.size := (by have : (0 : Int) < (a0.size : Int) := of_decide_eq_true (by first | (with_reducible assumption) | assumption); omega)
    have hx10 : ∀ h : 0 < a0.size, ((a0[0]'h).toNat : Int) = bt a0 0 := bt_at a0 0
    clear p10
    have qi10 : (0 < (a0.size : Int)) = True := eq_true (of_decide_eq_true (by first | (with_reducible assumption) | assumption))
    replace q10 := eq_true q10
    go_wp2_with (first | ((with_reducible refine gate_dst (N := 4) rfl ?_); refine box_event ?hg (N := 4) ?hd (cs := #[.int .i64 0, .slice none 0 0, .slice none 0 0]) (t := 42) ?hr ?_; (case hd => rfl); (case hg => rfl); (case hr => first | (go_simp; done) | (go_simp; rfl)); intro gb1096 hg w11 hbox hb; have n0_ := Aside0.mk (blk_below (g := gb1095) (o := .cells #[.int .i64 0, .slice none 0 0, .slice none 0 0] 42 (0, 0)) (rK_ BK1095.out) hb); have n1_ := Aside0.mk (below_step (hS_ GE1095.out) hb); have n2_ := Aside0.mk (hbox); have n3_ := Aside0.mk ((by rw [hg]; exact (below_size (hS_ GE1095.out)) : w.heap.size ≤ gb1096)); have n4_ := Aside0.mk ((by rw [hg]; exact (below_size (hS_ GE1095.out)) : w.heap.size ≤ gb1096)); have n5_ := Aside0.mk ((by rw [hg]; exact Nat.ne_of_lt (blk_lt (g := gb1095) (o := .cells #[.int .i64 0, .slice none 0 0, .slice none 0 0] 42 (0, 0)) (rK_ BK1095.out)) : gb1095 ≠ gb1096)); have n6_ := Aside0.mk ((by rw [hg]; exact Nat.ne_of_gt (blk_lt (g := gb1095) (o := .cells #[.int .i64 0, .slice none 0 0, .slice none 0 0] 42 (0, 0)) (rK_ BK1095.out)) : gb1096 ≠ gb1095)); replace BK1095 := n0_; replace HB := n1_; have BK1096 := n2_; have GW1096 := n3_; have GE1096 := n4_; have NB1095_1096 := n5_; have NB1096_1095 := n6_; clear n0_ n1_ n2_ n3_ n4_ n5_ n6_; clear hb hbox hg; have hnb12 := NB1096_1095.out; have hnc12 := NB1095_1096.out; have hcz13_0 : w11.cell? ⟨gb1096, 0, none⟩ = some (.int .i64 0) := (blk_cell BK1096.out 0).trans rfl; have hcz13_1 : w11.cell? ⟨gb1096, 1, none⟩ = some (.slice none 0 0) := (blk_cell BK1096.out 1).trans rfl; have hcz13_2 : w11.cell? ⟨gb1096, 2, none⟩ = some (.slice none 0 0) := (blk_cell BK1096.out 2).trans rfl; have hfz13_0 := blk_frozen BK1096.out 0; have hfz13_1 := blk_frozen BK1096.out 1; have hfz13_2 := blk_frozen BK1096.out 2))
    go_loopg [5] kj1 (fun kq v5 w' => ∃ (x5_2 : Int) (x1097001_2 : List ByteArray) (x1097002_2 : List ByteArray) (u1097001 : Value) (u1097002 : Value), v5 = .int .i64 x5_2 ∧ Aside0 (spec_ReadSig.l0 kq a0 x5_2 (wrap64 (bt a0 0)) x1097001_2 x1097002_2 = some (r1, r2, r3, r4)) ∧ Aside0 (kq ≤ kj1) ∧ Aside0 (Kd.R Kd.string 9 w' w.heap.size (fun k_ => some k_ ≠ (u1097002 : Value).ownBlock) u1097001 x1097001_2) ∧ Aside0 (Kd.R Kd.string 9 w' w.heap.size (fun k_ => some k_ ≠ (u1097001 : Value).ownBlock) u1097002 x1097002_2) ∧ Aside0 (w'.heap[gb1095]? = some (.cells #[.int .i64 0, (.slice none 0 0), (.slice none 0 0)] 42 (0, 0))) ∧ Aside0 (w'.heap[gb1096]? = some (.cells #[.int .i64 (wrap64 (bt a0 0)), u1097001, u1097002] 42 (0, 0))) ∧ Aside0 (Below w.heap.size w w'))
    case atStart => exact ⟨(0), (([] : List ByteArray)), (([] : List ByteArray)), (.slice none 0 0), (.slice none 0 0), (by first | rfl | (simp; done) | (simp [*]; done)), H', ⟨Nat.le_refl _⟩, ⟨by first | exact Kd.R_nil _ _ _ _ _ | exact Kd.N_nil _ _ _ _ _ | exact Kd.V_nil _ _ _ _ _ | exact Kd.Q_nil _ _ _ _ _ | exact Kd.S_nil _ _ _ _ _⟩, ⟨by first | exact Kd.R_nil _ _ _ _ _ | exact Kd.N_nil _ _ _ _ _ | exact Kd.V_nil _ _ _ _ _ | exact Kd.Q_nil _ _ _ _ _ | exact Kd.S_nil _ _ _ _ _⟩, ⟨by refine kK_ ?_; refine blk_far ?_ NB1095_1096.out _; refine kK_ ?_; refine blk_far ?_ NB1095_1096.out _; refine kK_ ?_; refine blk_far ?_ NB1095_1096.out _; refine kK_ ?_; exact BK1095.out⟩, ⟨by refine kK_ ?_; refine blk_put (cs := #[.int .i64 (wrap64 (bt a0 0)), .slice none 0 0, .slice none 0 0]) ?_ 2 _ rfl; refine kK_ ?_; refine blk_put (cs := #[.int .i64 (wrap64 (bt a0 0)), .slice none 0 0, .slice none 0 0]) ?_ 1 _ rfl; refine kK_ ?_; refine blk_put (cs := #[.int .i64 0, .slice none 0 0, .slice none 0 0]) ?_ 0 _ rfl; refine kK_ ?_; exact BK1096.out⟩, ⟨(u0_ GE1095.out GE1096.out)⟩⟩
    case round =>
     clear H'
     try clear c1
     try clear p1
     try clear q1
     try clear hx1
     try clear qi1
     try clear p2
     try clear c4
     try clear c4b0
     try clear c4b1
     try clear c5
     try clear c5b0
     try clear c5b1
     try clear p6
     try clear q6
     try clear hx6
     try clear qi6
     try clear c7
     try clear c9
     try clear c9b0
     try clear c9b1
     try clear p10
     try clear q10
     try clear hx10
     try clear qi10
     try clear c12
     try clear hcz13_0
     try clear hcz13_1
     try clear hcz13_2
     try clear hcz8_0
     try clear hcz8_1
     try clear hcz8_2
     try clear hfz13_0
     try clear hfz13_1
     try clear hfz13_2
     try clear hfz8_0
     try clear hfz8_1
     try clear hfz8_2
     try clear p10
     try clear p2
     try clear p6
     try clear q10
     try clear q6
     obtain ⟨x5_2, x1097001_2, x1097002_2, u1097001, u1097002, rfl, HA, HK2, HO_1097001, HO_1097002, BK1095, BK1096, HB⟩ := hrel
     cases gk with
     | zero => exact absurd HA.out (by simp [spec_ReadSig.l0])
     | succ k2 =>
      have H := HA.out
      clear HA
      simp only [spec_ReadSig.l0] at H
      by_cases c14 : x5_2 < 12
      rotate_left
      ·rw [if_neg c14] at H
       have c14b0 := decide_eq_false c14
       clear c14
       simp only [Option.some.injEq, Prod.mk.injEq] at H
       obtain ⟨rfl, rfl, rfl, rfl⟩ := H
       have hnb32 := NB1096_1095.out
       have hnc32 := NB1095_1096.out
       have hcz33_0 : wr.cell? ⟨gb1096, 0, none⟩ = some (.int .i64 (wrap64 (bt a0 0))) := (blk_cell BK1096.out 0).trans rfl
       have hcz33_1 : wr.cell? ⟨gb1096, 1, none⟩ = some (u1097001) := (blk_cell BK1096.out 1).trans rfl
       have hcz33_2 : wr.cell? ⟨gb1096, 2, none⟩ = some (u1097002) := (blk_cell BK1096.out 2).trans rfl
       have hfz33_0 := blk_frozen BK1096.out 0
       have hfz33_1 := blk_frozen BK1096.out 1
       have hfz33_2 := blk_frozen BK1096.out 2
       have hcz34_0 : wr.cell? ⟨gb1095, 0, none⟩ = some (.int .i64 0) := (blk_cell BK1095.out 0).trans rfl
       have hcz34_1 : wr.cell? ⟨gb1095, 1, none⟩ = some (.slice none 0 0) := (blk_cell BK1095.out 1).trans rfl
       have hcz34_2 : wr.cell? ⟨gb1095, 2, none⟩ = some (.slice none 0 0) := (blk_cell BK1095.out 2).trans rfl
       have hfz34_0 := blk_frozen BK1095.out 0
       have hfz34_1 := blk_frozen BK1095.out 1
       have hfz34_2 := blk_frozen BK1095.out 2
       obtain ⟨Ao35, co35, eo35⟩ := Kd.R_slice HO_1097001.out
       subst eo35
       obtain ⟨Ao36, co36, eo36⟩ := Kd.R_slice HO_1097002.out
       subst eo36
       go_wp2
       refine bodyPost_ret (results_ct rfl _ _ gb1095 42 #[.int .i64 (wrap64 (bt a0 0)), .slice Ao35 x1097001_2.length co35, .slice Ao36 x1097002_2.length co36] (0, 0) _ rfl (by refine kK_ ?_; refine blk_put (cs := #[.int .i64 (wrap64 (bt a0 0)), .slice Ao35 x1097001_2.length co35, .slice none 0 0]) ?_ 2 _ rfl; refine kK_ ?_; refine blk_put (cs := #[.int .i64 (wrap64 (bt a0 0)), .slice none 0 0, .slice none 0 0]) ?_ 1 _ rfl; refine kK_ ?_; refine blk_put (cs := #[.int .i64 0, .slice none 0 0, .slice none 0 0]) ?_ 0 _ rfl; exact rK_ BK1095.out) Tryd.underlying42 rfl (by kernel_rfl)) rfl ?_
       exact ⟨_, _, by first | rfl | (simp [errW_none, errW_some] <;> rfl) | (simp [*, errW_none, errW_some] <;> rfl), by refine kR_ ?_; exact Kd.R_mono (Kd.R_far (Kd.R_far (Kd.R_far (Kd.R_types HO_1097001.out BK1095.out (by decide)) (fun _ hk => hk.2) (.int .i64 (wrap64 (bt a0 0)))) (fun _ hk => hk.2) _) (fun _ hk => hk.2) _) (fun _ hk => hk.1), by refine kR_ ?_; exact Kd.R_mono (Kd.R_far (Kd.R_far (Kd.R_far (Kd.R_types HO_1097002.out BK1095.out (by decide)) (fun _ hk => hk.2) (.int .i64 (wrap64 (bt a0 0)))) (fun _ hk => hk.2) _) (fun _ hk => hk.2) _) (fun _ hk => hk.1), (u0_ GE1095.out GE1096.out)⟩
      rw [if_pos c14] at H
      have c14b0 := decide_eq_true c14
      clear c14
      obtain ⟨ji15, hji15⟩ : ∃ j_ : Int, (wrap64 (1 + (wrap64 (x5_2 * 4)))) = j_ := ⟨_, rfl⟩
      first | rw [hji15] at H | simp only [hji15] at H
      have hji15w : (IntKind.i64.wrap (1 + (wrap64 (x5_2 * 4)))) = ji15 := (i64_w _).trans hji15
      obtain ⟨c16, H⟩ := iN_ H
      have c16b0 := eq_true c16
      have c16b1 := decide_eq_true c16
      clear c16
      obtain ⟨c17, H⟩ := iN_ H
      have c17b0 := eq_true c17
      have c17b1 := decide_eq_true c17
      obtain ⟨c18, H⟩ := iN_ H
      have c18b0 := eq_true c18
      have c18b1 := decide_eq_true c18
      by_cases c19 : x5_2 < 10
      ·rw [if_pos c19] at H
       have c19b0 := decide_eq_true c19
       clear c19
       obtain ⟨c20, H⟩ := iN_ H
       have LMc20 := Aside0.mk c20
       clear c20
       obtain ⟨y1097, hy1097⟩ : ∃ y_ : List ByteArray, y_ = (x1097001_2 ++ [a0.extract ((ji15) : Int).toNat ((wrap64 (1 + (wrap64 ((wrap64 (x5_2 + 1)) * 4)))) : Int).toNat]) := ⟨_, rfl⟩
       replace H : (spec_ReadSig.l0 k2 a0 (wrap64 (x5_2 + 1)) (wrap64 (bt a0 0)) y1097 x1097002_2) = some (r1, r2, r3, r4) := by first | (rw [hy1097]; with_reducible exact H) | (have H2_ := (Option.bind_some _ _).symm.trans H; rw [hy1097]; with_reducible exact H2_) | (have H2_ := (Option.bind_some _ _).symm.trans H; with_reducible exact H2_) | with_reducible exact H | (rw [hy1097]; exact H) | exact H
       have Ny1097 := Aside0.mk hy1097
       clear hy1097
       have H' := Aside0.mk H
       clear H
       have hnb21 := NB1096_1095.out
       have hnc21 := NB1095_1096.out
       have hcz22_0 : wr.cell? ⟨gb1096, 0, none⟩ = some (.int .i64 (wrap64 (bt a0 0))) := (blk_cell BK1096.out 0).trans rfl
       have hcz22_1 : wr.cell? ⟨gb1096, 1, none⟩ = some (u1097001) := (blk_cell BK1096.out 1).trans rfl
       have hcz22_2 : wr.cell? ⟨gb1096, 2, none⟩ = some (u1097002) := (blk_cell BK1096.out 2).trans rfl
       have hfz22_0 := blk_frozen BK1096.out 0
       have hfz22_1 := blk_frozen BK1096.out 1
       have hfz22_2 := blk_frozen BK1096.out 2
       go_wp2_with (first | ((with_reducible refine gate_builtin (b := .append) (xs := #[.tmp 37, .tmp 39]) rfl ?_); at_builtin; refine Kd.R_append Kd.string (w0 := w) w.heap.size rfl (.tmp 37) (.tmp 39) 25 9 (.string ⟨#[]⟩) 16 rfl Tryd.underlying25 info9 rfl (by decide) (by omega) u1097001 x1097001_2 (a0.extract ((ji15) : Int).toNat ((wrap64 (1 + (wrap64 ((wrap64 (x5_2 + 1)) * 4)))) : Int).toNat) [.string (a0.extract ((ji15) : Int).toNat ((wrap64 (1 + (wrap64 ((wrap64 (x5_2 + 1)) * 4)))) : Int).toNat)] (fun k_ => some k_ ≠ (u1097002 : Value).ownBlock) (fun _ => False) rfl rfl ?aP (fun _ hk => hk.elim) ?aF ?aO ?aB ?aS ?aL ?_; (case aP => exact rfl); (case aB => exact ((u0_ GE1095.out GE1096.out))); (case aF => exact (fun k_ hk => Kd.fresh' (Kd.R_lt (rR_ HO_1097002.out)) k_ hk)); (case aO => exact (rR_ HO_1097001.out)); (case aS => exact (below_size ((u0_ GE1095.out GE1096.out)))); (case aL => have := LMc20.out; omega); intro v1098 w23 ho hb hg hat; rw [← Ny1097.out] at ho; have n0_ := Aside0.mk (Kd.R_after (ok := (fun _ => True)) (by refine kR_ ?_; exact Kd.R_mono HO_1097002.out (fun _ hk => ⟨trivial, hk⟩)) hg hat); have n1_ := Aside0.mk (blk_grown (g := gb1095) (o := .cells #[.int .i64 0, .slice none 0 0, .slice none 0 0] 42 (0, 0)) (rK_ BK1095.out) hg (Kd.R_ne HO_1097001.out BK1095.out (by decide))); have n2_ := Aside0.mk (blk_grown (g := gb1096) (o := .cells #[.int .i64 (wrap64 (bt a0 0)), u1097001, u1097002] 42 (0, 0)) (rK_ BK1096.out) hg (Kd.R_ne HO_1097001.out BK1096.out (by decide))); have n3_ := Aside0.mk (hb); have n4_ := Aside0.mk (ho); clear HO_1097001; replace HO_1097002 := n0_; replace BK1095 := n1_; replace BK1096 := n2_; replace HB := n3_; have HO1099 := n4_; clear n0_ n1_ n2_ n3_ n4_; clear ho hb hg hat; obtain ⟨Ao24, co24, eo24⟩ := Kd.R_slice HO1099.out; subst eo24; have hcz25_0 : w23.cell? ⟨gb1096, 0, none⟩ = some (.int .i64 (wrap64 (bt a0 0))) := (blk_cell BK1096.out 0).trans rfl; have hcz25_1 : w23.cell? ⟨gb1096, 1, none⟩ = some (u1097001) := (blk_cell BK1096.out 1).trans rfl; have hcz25_2 : w23.cell? ⟨gb1096, 2, none⟩ = some (u1097002) := (blk_cell BK1096.out 2).trans rfl; have hfz25_0 := blk_frozen BK1096.out 0; have hfz25_1 := blk_frozen BK1096.out 1; have hfz25_2 := blk_frozen BK1096.out 2))
       go_roundg k2
       case measure => have := HJ1.out; have := HK2.out; omega
       case rel => exact ⟨(wrap64 (x5_2 + 1)), (y1097), (x1097002_2), (.slice Ao24 y1097.length co24), (u1097002), (by first | rfl | (simp; done) | (simp [*]; done)), H', ⟨by have := HJ1.out; have := HK2.out; omega⟩, ⟨by refine kR_ ?_; exact Kd.R_mono (Kd.R_far (Kd.R_types HO1099.out BK1096.out (by decide)) (fun _ hk => hk.2) _) (fun _ hk => hk.1)⟩, ⟨by refine kR_ ?_; exact Kd.R_mono (Kd.R_far (Kd.R_types HO_1097002.out BK1096.out (by decide)) (fun _ hk => hk.2) _) (fun _ hk => hk.1.2)⟩, ⟨by refine kK_ ?_; refine blk_far ?_ NB1095_1096.out _; refine kK_ ?_; exact BK1095.out⟩, ⟨by refine kK_ ?_; refine blk_put (cs := #[.int .i64 (wrap64 (bt a0 0)), u1097001, u1097002]) ?_ 1 _ rfl; refine kK_ ?_; exact BK1096.out⟩, ⟨(u0_ GE1095.out GE1096.out)⟩⟩
      rw [if_neg c19] at H
      have c19b0 := decide_eq_false c19
      clear c19
      obtain ⟨c26, H⟩ := iN_ H
      have LMc26 := Aside0.mk c26
      clear c26
      obtain ⟨y1100, hy1100⟩ : ∃ y_ : List ByteArray, y_ = (x1097002_2 ++ [a0.extract ((ji15) : Int).toNat ((wrap64 (1 + (wrap64 ((wrap64 (x5_2 + 1)) * 4)))) : Int).toNat]) := ⟨_, rfl⟩
      replace H : (spec_ReadSig.l0 k2 a0 (wrap64 (x5_2 + 1)) (wrap64 (bt a0 0)) x1097001_2 y1100) = some (r1, r2, r3, r4) := by first | (rw [hy1100]; with_reducible exact H) | (have H2_ := (Option.bind_some _ _).symm.trans H; rw [hy1100]; with_reducible exact H2_) | (have H2_ := (Option.bind_some _ _).symm.trans H; with_reducible exact H2_) | with_reducible exact H | (rw [hy1100]; exact H) | exact H
      have Ny1100 := Aside0.mk hy1100
      clear hy1100
      have H' := Aside0.mk H
      clear H
      have hnb27 := NB1096_1095.out
      have hnc27 := NB1095_1096.out
      have hcz28_0 : wr.cell? ⟨gb1096, 0, none⟩ = some (.int .i64 (wrap64 (bt a0 0))) := (blk_cell BK1096.out 0).trans rfl
      have hcz28_1 : wr.cell? ⟨gb1096, 1, none⟩ = some (u1097001) := (blk_cell BK1096.out 1).trans rfl
      have hcz28_2 : wr.cell? ⟨gb1096, 2, none⟩ = some (u1097002) := (blk_cell BK1096.out 2).trans rfl
      have hfz28_0 := blk_frozen BK1096.out 0
      have hfz28_1 := blk_frozen BK1096.out 1
      have hfz28_2 := blk_frozen BK1096.out 2
      go_wp2_with (first | ((with_reducible refine gate_builtin (b := .append) (xs := #[.tmp 43, .tmp 45]) rfl ?_); at_builtin; refine Kd.R_append Kd.string (w0 := w) w.heap.size rfl (.tmp 43) (.tmp 45) 25 9 (.string ⟨#[]⟩) 16 rfl Tryd.underlying25 info9 rfl (by decide) (by omega) u1097002 x1097002_2 (a0.extract ((ji15) : Int).toNat ((wrap64 (1 + (wrap64 ((wrap64 (x5_2 + 1)) * 4)))) : Int).toNat) [.string (a0.extract ((ji15) : Int).toNat ((wrap64 (1 + (wrap64 ((wrap64 (x5_2 + 1)) * 4)))) : Int).toNat)] (fun k_ => some k_ ≠ (u1097001 : Value).ownBlock) (fun _ => False) rfl rfl ?aP (fun _ hk => hk.elim) ?aF ?aO ?aB ?aS ?aL ?_; (case aP => exact rfl); (case aB => exact ((u0_ GE1095.out GE1096.out))); (case aF => exact (fun k_ hk => Kd.fresh' (Kd.R_lt (rR_ HO_1097001.out)) k_ hk)); (case aO => exact (rR_ HO_1097002.out)); (case aS => exact (below_size ((u0_ GE1095.out GE1096.out)))); (case aL => have := LMc26.out; omega); intro v1101 w29 ho hb hg hat; rw [← Ny1100.out] at ho; have n0_ := Aside0.mk (Kd.R_after (ok := (fun _ => True)) (by refine kR_ ?_; exact Kd.R_mono HO_1097001.out (fun _ hk => ⟨trivial, hk⟩)) hg hat); have n1_ := Aside0.mk (blk_grown (g := gb1095) (o := .cells #[.int .i64 0, .slice none 0 0, .slice none 0 0] 42 (0, 0)) (rK_ BK1095.out) hg (Kd.R_ne HO_1097002.out BK1095.out (by decide))); have n2_ := Aside0.mk (blk_grown (g := gb1096) (o := .cells #[.int .i64 (wrap64 (bt a0 0)), u1097001, u1097002] 42 (0, 0)) (rK_ BK1096.out) hg (Kd.R_ne HO_1097002.out BK1096.out (by decide))); have n3_ := Aside0.mk (hb); have n4_ := Aside0.mk (ho); clear HO_1097002; replace HO_1097001 := n0_; replace BK1095 := n1_; replace BK1096 := n2_; replace HB := n3_; have HO1102 := n4_; clear n0_ n1_ n2_ n3_ n4_; clear ho hb hg hat; obtain ⟨Ao30, co30, eo30⟩ := Kd.R_slice HO1102.out; subst eo30; have hcz31_0 : w29.cell? ⟨gb1096, 0, none⟩ = some (.int .i64 (wrap64 (bt a0 0))) := (blk_cell BK1096.out 0).trans rfl; have hcz31_1 : w29.cell? ⟨gb1096, 1, none⟩ = some (u1097001) := (blk_cell BK1096.out 1).trans rfl; have hcz31_2 : w29.cell? ⟨gb1096, 2, none⟩ = some (u1097002) := (blk_cell BK1096.out 2).trans rfl; have hfz31_0 := blk_frozen BK1096.out 0; have hfz31_1 := blk_frozen BK1096.out 1; have hfz31_2 := blk_frozen BK1096.out 2))
      go_roundg k2
      case measure => have := HJ1.out; have := HK2.out; omega
      case rel => exact ⟨(wrap64 (x5_2 + 1)), (x1097001_2), (y1100), (u1097001), (.slice Ao30 y1100.length co30), (by first | rfl | (simp; done) | (simp [*]; done)), H', ⟨by have := HJ1.out; have := HK2.out; omega⟩, ⟨by refine kR_ ?_; exact Kd.R_mono (Kd.R_far (Kd.R_types HO_1097001.out BK1096.out (by decide)) (fun _ hk => hk.2) _) (fun _ hk => hk.1.2)⟩, ⟨by refine kR_ ?_; exact Kd.R_mono (Kd.R_far (Kd.R_types HO1102.out BK1096.out (by decide)) (fun _ hk => hk.2) _) (fun _ hk => hk.1)⟩, ⟨by refine kK_ ?_; refine blk_far ?_ NB1095_1096.out _; refine kK_ ?_; exact BK1095.out⟩, ⟨by refine kK_ ?_; refine blk_put (cs := #[.int .i64 (wrap64 (bt a0 0)), u1097001, u1097002]) ?_ 2 _ rfl; refine kK_ ?_; exact BK1096.out⟩, ⟨(u0_ GE1095.out GE1096.out)⟩⟩

end Go.Proofs.YtjcmafoepabpkaaDoor.P
