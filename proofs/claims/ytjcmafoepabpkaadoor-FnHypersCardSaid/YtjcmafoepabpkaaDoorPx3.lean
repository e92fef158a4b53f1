-- printed texts of this session, regrouped
import Derived.Test.YtjcmafoepabpkaaDoorMW7
import Derived.Test.YtjcmafoepabpkaaDoorMW8
import Derived.Test.YtjcmafoepabpkaaDoorMW6
import Derived.Test.YtjcmafoepabpkaaDoorPx0
import Derived.Test.YtjcmafoepabpkaaDoorPx2
namespace Go.Proofs.YtjcmafoepabpkaaDoor.P
open Go.RowKit Go.Proofs.YtjcmafoepabpkaaDoorW.PrintWords Go.Proofs.YtjcmafoepabpkaaDoorW.PrintLast Go.Proofs.YtjcmafoepabpkaaDoorW.PrintMore
attribute [local go_sem] max2_int min2_int max_two min_two max_three min_three max_four min_four   -- for this text's walks alone
set_option linter.unusedVariables false
set_option linter.unusedSimpArgs false
set_option maxHeartbeats 8000000
set_option maxRecDepth 100000

/-! ### impl_ReadSig: function 46 -/
mutual
def impl_ReadSig.j0 : Nat → ByteArray → Bool → Option (Int × List ByteArray × List ByteArray × Bool)
 | 0, _, _ => none
 | k + 1, x0, x14 => if x14 = true then (some (0, ([] : List ByteArray), ([] : List ByteArray), false)) else (if 0 < (x0.size : Int) then (impl_ReadSig.l0 k x0 0 (wrap64 (bt x0 0)) ([] : List ByteArray) ([] : List ByteArray)) else (none))
def impl_ReadSig.l0 : Nat → ByteArray → Int → Int → List ByteArray → List ByteArray → Option (Int × List ByteArray × List ByteArray × Bool)
 | 0, _, _, _, _, _ => none
 | k + 1, x0, x20, x529000, x529001, x529002 => if x20 < 12 then (if 0 ≤ (wrap64 (1 + (wrap64 (x20 * 4)))) then (if (wrap64 (1 + (wrap64 (x20 * 4)))) ≤ (wrap64 (1 + (wrap64 ((wrap64 (x20 + 1)) * 4)))) then (if (wrap64 (1 + (wrap64 ((wrap64 (x20 + 1)) * 4)))) ≤ (x0.size : Int) then (if x20 < 10 then (if x529001.length < 8796093022208 then (impl_ReadSig.l0 k x0 (wrap64 (x20 + 1)) x529000 (x529001 ++ [x0.extract ((wrap64 (1 + (wrap64 (x20 * 4)))) : Int).toNat ((wrap64 (1 + (wrap64 ((wrap64 (x20 + 1)) * 4)))) : Int).toNat]) x529002) else (none)) else (if x529002.length < 8796093022208 then (impl_ReadSig.l0 k x0 (wrap64 (x20 + 1)) x529000 x529001 (x529002 ++ [x0.extract ((wrap64 (1 + (wrap64 (x20 * 4)))) : Int).toNat ((wrap64 (1 + (wrap64 ((wrap64 (x20 + 1)) * 4)))) : Int).toNat])) else (none))) else (none)) else (none)) else (none)) else (some (x529000, x529001, x529002, true))
end
def impl_ReadSig.f (k : Nat) (a0 : ByteArray) : Option (Int × List ByteArray × List ByteArray × Bool) := if (a0.size : Int) = 49 then (if 0 < (a0.size : Int) then (impl_ReadSig.j0 k a0 (decide ((bt a0 0) ≥ 4))) else (none)) else (impl_ReadSig.j0 k a0 true)
theorem impl_ReadSig.mono_l : ∀ k, (∀ y0 y1, LeO (impl_ReadSig.j0 k y0 y1) (impl_ReadSig.j0 (k + 1) y0 y1)) ∧ (∀ y0 y1 y2 y3 y4, LeO (impl_ReadSig.l0 k y0 y1 y2 y3 y4) (impl_ReadSig.l0 (k + 1) y0 y1 y2 y3 y4))
 | 0 => ⟨fun _ _ r h => by simp [impl_ReadSig.j0] at h, fun _ _ _ _ _ r h => by simp [impl_ReadSig.l0] at h⟩
 | k + 1 => by
  obtain ⟨ih0, ih1⟩ := impl_ReadSig.mono_l k
  refine ⟨?_, ?_⟩
  ·intro y0 y1
   unfold impl_ReadSig.j0
   repeat' first
   | (with_reducible exact ih0 _ _)
   | (with_reducible exact ih1 _ _ _ _ _)
   | (with_reducible exact LeO.refl _)
   | (with_reducible exact LeO.none _)
   | (with_reducible refine LeO.ite ?_ ?_)
   | (with_reducible refine LeO.bind ?_ (fun _ => ?_))
  ·intro y0 y1 y2 y3 y4
   unfold impl_ReadSig.l0
   repeat' first
   | (with_reducible exact ih0 _ _)
   | (with_reducible exact ih1 _ _ _ _ _)
   | (with_reducible exact LeO.refl _)
   | (with_reducible exact LeO.none _)
   | (with_reducible refine LeO.ite ?_ ?_)
   | (with_reducible refine LeO.bind ?_ (fun _ => ?_))
theorem impl_ReadSig.mono : ∀ a0 k, LeO (impl_ReadSig.f k a0) (impl_ReadSig.f (k + 1) a0) := by
 intro a0 k
 obtain ⟨ih0, ih1⟩ := impl_ReadSig.mono_l k
 unfold impl_ReadSig.f
 repeat' first
   | (with_reducible exact ih0 _ _)
   | (with_reducible exact ih1 _ _ _ _ _)
   | (with_reducible exact LeO.refl _)
   | (with_reducible exact LeO.none _)
   | (with_reducible refine LeO.ite ?_ ?_)
   | (with_reducible refine LeO.bind ?_ (fun _ => ?_))
theorem impl_ReadSig.calls (k : Nat) (a0 : ByteArray) (r1 : Int) (r2 : List ByteArray) (r3 : List ByteArray) (r4 : Bool) (w : World) (h : impl_ReadSig.f k a0 = some (r1, r2, r3, r4)) :
  Calls Tryd.prog 46 #[.string a0] w fun e w' => ∃ v1_ v2_ : Value, e = .returned (.tuple #[.agg #[.int .i64 r1, v1_, v2_], .bool r4]) ∧ Kd.R Kd.string 9 w' w.heap.size (fun k_ => some k_ ≠ (v2_ : Value).ownBlock) v1_ r2 ∧ Kd.R Kd.string 9 w' w.heap.size (fun k_ => some k_ ≠ (v1_ : Value).ownBlock) v2_ r3 ∧ Below w.heap.size w w' := by
 have hu42 := Tryd.underlying42
 have HB := Aside0.mk (Below.refl w.heap.size w)
 have H : (if (a0.size : Int) = 49 then (if 0 < (a0.size : Int) then (impl_ReadSig.j0 k a0 (decide ((bt a0 0) ≥ 4))) else (none)) else (impl_ReadSig.j0 k a0 true)) = some (r1, r2, r3, r4) := h
 clear h
 have HC2 := Aside0.mk H
 clear H
 go_enter Tryd.func46, Tryd.ntmps46
 go_upto_region 1 with (first | ((with_reducible refine gate_dst (N := 2) rfl ?_); refine box_event ?hg (N := 2) ?hd (cs := #[.int .i64 0, .slice none 0 0, .slice none 0 0]) (t := 42) ?hr ?_; (case hd => rfl); (case hg => rfl); (case hr => first | (go_simp; done) | (go_simp; rfl)); intro gb527 hg w3 hbox hb; have n0_ := Aside0.mk (below_step (hB_) hb); have n1_ := Aside0.mk (hbox); have n2_ := Aside0.mk ((by rw [hg]; exact (below_size (hB_)) : w.heap.size ≤ gb527)); have n3_ := Aside0.mk ((by rw [hg]; exact (below_size (hB_)) : w.heap.size ≤ gb527)); replace HB := n0_; have BK527 := n1_; have GW527 := n2_; have GE527 := n3_; clear n0_ n1_ n2_ n3_; clear hb hbox hg))
 (try simp only [Act.put, List.setIfInBounds_toArray, List.set_cons_zero, List.set_cons_succ])
 go_cut [14] (fun v14 wc => ∃ (kq : Nat) (x14_1 : Bool), v14 = .bool x14_1 ∧ Aside0 (impl_ReadSig.j0 kq a0 x14_1 = some (r1, r2, r3, r4)) ∧ Aside0 (kq ≤ k) ∧ Aside0 (wc.heap[gb527]? = some (.cells #[.int .i64 0, (.slice none 0 0), (.slice none 0 0)] 42 (0, 0))) ∧ Aside0 (Below w.heap.size w wc))
 case first =>
  have H := HC2.out
  clear HC2
  by_cases c4 : (a0.size : Int) = 49
  ·rw [if_pos c4] at H
   have c4b0 : ((a0.size : Int) == 49) = true := beq_iff_eq.mpr c4
   have c4b1 : ((a0.size : Int) != 49) = false := bne_eq_false_iff_eq.mpr c4
   clear c4
   (first | rw [c4b0] | (simp only [i64_w, i32_w]; rw [c4b0]) | skip)
   obtain ⟨c5, H⟩ := iN_ H
   have c5b0 := decide_eq_true c5
   have c5b1 : decide (0 < a0.size) = true := decide_eq_true (by omega)
   clear c5
   have H' := Aside0.mk H
   clear H
   have p6 : 0 ≤ (0 : Int) := (by omega)
   have q6 : 0 < a0.size := (by have : (0 : Int) < (a0.size : Int) := of_decide_eq_true (by first | (with_reducible assumption) | assumption); omega)
   have hx6 : ∀ h : 0 < a0.size, ((a0[0]'h).toNat : Int) = bt a0 0 := bt_at a0 0
   clear p6
   have qi6 : (0 < (a0.size : Int)) = True := eq_true (of_decide_eq_true (by first | (with_reducible assumption) | assumption))
   replace q6 := eq_true q6
   go_wp2
   go_meet
   case rel => exact ⟨_, (decide ((bt a0 0) ≥ 4)), (by first | rfl | (simp; done) | (simp [*]; done)), H', ⟨by first | omega | exact Nat.le_refl _⟩, ⟨by refine kK_ ?_; exact BK527.out⟩, ⟨hS_ GE527.out⟩⟩
  rw [if_neg c4] at H
  have c4b0 : ((a0.size : Int) == 49) = false := beq_eq_false_iff_ne.mpr c4
  have c4b1 : ((a0.size : Int) != 49) = true := bne_iff_ne.mpr c4
  (first | rw [c4b0] | (simp only [i64_w, i32_w]; rw [c4b0]) | skip)
  have H' := Aside0.mk H
  clear H
  go_wp2
  go_meet
  case rel => exact ⟨_, (true), (by first | rfl | (simp; done) | (simp [*]; done)), H', ⟨by first | omega | exact Nat.le_refl _⟩, ⟨by refine kK_ ?_; exact BK527.out⟩, ⟨hS_ GE527.out⟩⟩
 case rest =>
  clear HC2
  try clear p2
  try clear c4
  try clear c4b0
  try clear c4b1
  try clear c5
  try clear c5b0
  try clear c5b1
  try clear p6
  try clear q6
  try clear hx6
  try clear qi6
  try clear p6
  try clear q6
  obtain ⟨kq, x14_1, rfl, HA, HJ1, BK527, HB⟩ := hcut
  cases kq with
  | zero => exact absurd HA.out (by simp [impl_ReadSig.j0])
  | succ kj1 =>
   have H := HA.out
   clear HA
   simp only [impl_ReadSig.j0] at H
   by_cases c7 : x14_1 = true
   ·subst c7
    have H1 : (some (0, ([] : List ByteArray), ([] : List ByteArray), false)) = some (r1, r2, r3, r4) := by rw [if_pos rfl] at H; exact H
    clear H
    have H := H1
    clear H1
    simp only [Option.some.injEq, Prod.mk.injEq] at H
    obtain ⟨rfl, rfl, rfl, rfl⟩ := H
    have hcz8_0 : wc.cell? ⟨gb527, 0, none⟩ = some (.int .i64 0) := (blk_cell BK527.out 0).trans rfl
    have hcz8_1 : wc.cell? ⟨gb527, 1, none⟩ = some (.slice none 0 0) := (blk_cell BK527.out 1).trans rfl
    have hcz8_2 : wc.cell? ⟨gb527, 2, none⟩ = some (.slice none 0 0) := (blk_cell BK527.out 2).trans rfl
    have hfz8_0 := blk_frozen BK527.out 0
    have hfz8_1 := blk_frozen BK527.out 1
    have hfz8_2 := blk_frozen BK527.out 2
    go_wp2
    refine bodyPost_ret (results_ct rfl _ _ gb527 42 #[.int .i64 0, .slice none 0 0, .slice none 0 0] (0, 0) _ rfl (by refine kK_ ?_; refine blk_put (cs := #[.int .i64 0, .slice none 0 0, .slice none 0 0]) ?_ 2 _ rfl; refine kK_ ?_; refine blk_put (cs := #[.int .i64 0, .slice none 0 0, .slice none 0 0]) ?_ 1 _ rfl; refine kK_ ?_; refine blk_put (cs := #[.int .i64 0, .slice none 0 0, .slice none 0 0]) ?_ 0 _ rfl; exact rK_ BK527.out) Tryd.underlying42 rfl (by kernel_rfl)) rfl ?_
    exact ⟨_, _, by first | rfl | (simp [errW_none, errW_some] <;> rfl) | (simp [*, errW_none, errW_some] <;> rfl), by first | exact Kd.R_nil _ _ _ _ _ | exact Kd.N_nil _ _ _ _ _ | exact Kd.V_nil _ _ _ _ _ | exact Kd.Q_nil _ _ _ _ _ | exact Kd.S_nil _ _ _ _ _, by first | exact Kd.R_nil _ _ _ _ _ | exact Kd.N_nil _ _ _ _ _ | exact Kd.V_nil _ _ _ _ _ | exact Kd.Q_nil _ _ _ _ _ | exact Kd.S_nil _ _ _ _ _, hS_ GE527.out⟩
   ·replace c7 := Bool.eq_false_iff.mpr c7
    subst c7
    have H1 : (if 0 < (a0.size : Int) then (impl_ReadSig.l0 kj1 a0 0 (wrap64 (bt a0 0)) ([] : List ByteArray) ([] : List ByteArray)) else (none)) = some (r1, r2, r3, r4) := by rw [if_neg (show ¬ (false = true) by decide)] at H; exact H
    clear H
    have H := H1
    clear H1
    obtain ⟨c9, H⟩ := iN_ H
    have c9b0 := decide_eq_true c9
    have c9b1 : decide (0 < a0.size) = true := decide_eq_true (by omega)
    clear c9
    have H' := Aside0.mk H
    clear H
    have p10 : 0 ≤ (0 : Int) := (by omega)
    have q10 : 0 < a0.size := (by have : (0 : Int) < (a0.size : Int) := of_decide_eq_true (by first | (with_reducible assumption) | assumption); omega)
    have hx10 : ∀ h : 0 < a0.size, ((a0[0]'h).toNat : Int) = bt a0 0 := bt_at a0 0
    clear p10
    have qi10 : (0 < (a0.size : Int)) = True := eq_true (of_decide_eq_true (by first | (with_reducible assumption) | assumption))
    replace q10 := eq_true q10
    go_wp2_with (first | ((with_reducible refine gate_dst (N := 4) rfl ?_); refine box_event ?hg (N := 4) ?hd (cs := #[.int .i64 0, .slice none 0 0, .slice none 0 0]) (t := 42) ?hr ?_; (case hd => rfl); (case hg => rfl); (case hr => first | (go_simp; done) | (go_simp; rfl)); intro gb528 hg w11 hbox hb; have n0_ := Aside0.mk (blk_below (g := gb527) (o := .cells #[.int .i64 0, .slice none 0 0, .slice none 0 0] 42 (0, 0)) (rK_ BK527.out) hb); have n1_ := Aside0.mk (below_step (hS_ GE527.out) hb); have n2_ := Aside0.mk (hbox); have n3_ := Aside0.mk ((by rw [hg]; exact (below_size (hS_ GE527.out)) : w.heap.size ≤ gb528)); have n4_ := Aside0.mk ((by rw [hg]; exact (below_size (hS_ GE527.out)) : w.heap.size ≤ gb528)); have n5_ := Aside0.mk ((by rw [hg]; exact Nat.ne_of_lt (blk_lt (g := gb527) (o := .cells #[.int .i64 0, .slice none 0 0, .slice none 0 0] 42 (0, 0)) (rK_ BK527.out)) : gb527 ≠ gb528)); have n6_ := Aside0.mk ((by rw [hg]; exact Nat.ne_of_gt (blk_lt (g := gb527) (o := .cells #[.int .i64 0, .slice none 0 0, .slice none 0 0] 42 (0, 0)) (rK_ BK527.out)) : gb528 ≠ gb527)); replace BK527 := n0_; replace HB := n1_; have BK528 := n2_; have GW528 := n3_; have GE528 := n4_; have NB527_528 := n5_; have NB528_527 := n6_; clear n0_ n1_ n2_ n3_ n4_ n5_ n6_; clear hb hbox hg; have hnb12 := NB528_527.out; have hnc12 := NB527_528.out; have hcz13_0 : w11.cell? ⟨gb528, 0, none⟩ = some (.int .i64 0) := (blk_cell BK528.out 0).trans rfl; have hcz13_1 : w11.cell? ⟨gb528, 1, none⟩ = some (.slice none 0 0) := (blk_cell BK528.out 1).trans rfl; have hcz13_2 : w11.cell? ⟨gb528, 2, none⟩ = some (.slice none 0 0) := (blk_cell BK528.out 2).trans rfl; have hfz13_0 := blk_frozen BK528.out 0; have hfz13_1 := blk_frozen BK528.out 1; have hfz13_2 := blk_frozen BK528.out 2))
    go_loopg [20] kj1 (fun kq v20 w' => ∃ (x20_2 : Int) (x529001_2 : List ByteArray) (x529002_2 : List ByteArray) (u529001 : Value) (u529002 : Value), v20 = .int .i64 x20_2 ∧ Aside0 (impl_ReadSig.l0 kq a0 x20_2 (wrap64 (bt a0 0)) x529001_2 x529002_2 = some (r1, r2, r3, r4)) ∧ Aside0 (kq ≤ kj1) ∧ Aside0 (Kd.R Kd.string 9 w' w.heap.size (fun k_ => some k_ ≠ (u529002 : Value).ownBlock) u529001 x529001_2) ∧ Aside0 (Kd.R Kd.string 9 w' w.heap.size (fun k_ => some k_ ≠ (u529001 : Value).ownBlock) u529002 x529002_2) ∧ Aside0 (w'.heap[gb527]? = some (.cells #[.int .i64 0, (.slice none 0 0), (.slice none 0 0)] 42 (0, 0))) ∧ Aside0 (w'.heap[gb528]? = some (.cells #[.int .i64 (wrap64 (bt a0 0)), u529001, u529002] 42 (0, 0))) ∧ Aside0 (Below w.heap.size w w'))
    case atStart => exact ⟨(0), (([] : List ByteArray)), (([] : List ByteArray)), (.slice none 0 0), (.slice none 0 0), (by first | rfl | (simp; done) | (simp [*]; done)), H', ⟨Nat.le_refl _⟩, ⟨by first | exact Kd.R_nil _ _ _ _ _ | exact Kd.N_nil _ _ _ _ _ | exact Kd.V_nil _ _ _ _ _ | exact Kd.Q_nil _ _ _ _ _ | exact Kd.S_nil _ _ _ _ _⟩, ⟨by first | exact Kd.R_nil _ _ _ _ _ | exact Kd.N_nil _ _ _ _ _ | exact Kd.V_nil _ _ _ _ _ | exact Kd.Q_nil _ _ _ _ _ | exact Kd.S_nil _ _ _ _ _⟩, ⟨by refine kK_ ?_; refine blk_far ?_ NB527_528.out _; refine kK_ ?_; refine blk_far ?_ NB527_528.out _; refine kK_ ?_; refine blk_far ?_ NB527_528.out _; refine kK_ ?_; exact BK527.out⟩, ⟨by refine kK_ ?_; refine blk_put (cs := #[.int .i64 (wrap64 (bt a0 0)), .slice none 0 0, .slice none 0 0]) ?_ 2 _ rfl; refine kK_ ?_; refine blk_put (cs := #[.int .i64 (wrap64 (bt a0 0)), .slice none 0 0, .slice none 0 0]) ?_ 1 _ rfl; refine kK_ ?_; refine blk_put (cs := #[.int .i64 0, .slice none 0 0, .slice none 0 0]) ?_ 0 _ rfl; refine kK_ ?_; exact BK528.out⟩, ⟨(u0_ GE527.out GE528.out)⟩⟩
    case round =>
     clear H'
     try clear c1
     try clear p1
     try clear q1
     try clear hx1
     try clear qi1
     try clear p2
     try clear c4
     try clear c4b0
     try clear c4b1
     try clear c5
     try clear c5b0
     try clear c5b1
     try clear p6
     try clear q6
     try clear hx6
     try clear qi6
     try clear c7
     try clear c9
     try clear c9b0
     try clear c9b1
     try clear p10
     try clear q10
     try clear hx10
     try clear qi10
     try clear c12
     try clear hcz13_0
     try clear hcz13_1
     try clear hcz13_2
     try clear hcz8_0
     try clear hcz8_1
     try clear hcz8_2
     try clear hfz13_0
     try clear hfz13_1
     try clear hfz13_2
     try clear hfz8_0
     try clear hfz8_1
     try clear hfz8_2
     try clear p10
     try clear p2
     try clear p6
     try clear q10
     try clear q6
     obtain ⟨x20_2, x529001_2, x529002_2, u529001, u529002, rfl, HA, HK2, HO_529001, HO_529002, BK527, BK528, HB⟩ := hrel
     cases gk with
     | zero => exact absurd HA.out (by simp [impl_ReadSig.l0])
     | succ k2 =>
      have H := HA.out
      clear HA
      simp only [impl_ReadSig.l0] at H
      by_cases c14 : x20_2 < 12
      rotate_left
      ·rw [if_neg c14] at H
       have c14b0 := decide_eq_false c14
       clear c14
       simp only [Option.some.injEq, Prod.mk.injEq] at H
       obtain ⟨rfl, rfl, rfl, rfl⟩ := H
       have hnb32 := NB528_527.out
       have hnc32 := NB527_528.out
       have hcz33_0 : wr.cell? ⟨gb528, 0, none⟩ = some (.int .i64 (wrap64 (bt a0 0))) := (blk_cell BK528.out 0).trans rfl
       have hcz33_1 : wr.cell? ⟨gb528, 1, none⟩ = some (u529001) := (blk_cell BK528.out 1).trans rfl
       have hcz33_2 : wr.cell? ⟨gb528, 2, none⟩ = some (u529002) := (blk_cell BK528.out 2).trans rfl
       have hfz33_0 := blk_frozen BK528.out 0
       have hfz33_1 := blk_frozen BK528.out 1
       have hfz33_2 := blk_frozen BK528.out 2
       have hcz34_0 : wr.cell? ⟨gb527, 0, none⟩ = some (.int .i64 0) := (blk_cell BK527.out 0).trans rfl
       have hcz34_1 : wr.cell? ⟨gb527, 1, none⟩ = some (.slice none 0 0) := (blk_cell BK527.out 1).trans rfl
       have hcz34_2 : wr.cell? ⟨gb527, 2, none⟩ = some (.slice none 0 0) := (blk_cell BK527.out 2).trans rfl
       have hfz34_0 := blk_frozen BK527.out 0
       have hfz34_1 := blk_frozen BK527.out 1
       have hfz34_2 := blk_frozen BK527.out 2
       obtain ⟨Ao35, co35, eo35⟩ := Kd.R_slice HO_529001.out
       subst eo35
       obtain ⟨Ao36, co36, eo36⟩ := Kd.R_slice HO_529002.out
       subst eo36
       go_wp2
       refine bodyPost_ret (results_ct rfl _ _ gb527 42 #[.int .i64 (wrap64 (bt a0 0)), .slice Ao35 x529001_2.length co35, .slice Ao36 x529002_2.length co36] (0, 0) _ rfl (by refine kK_ ?_; refine blk_put (cs := #[.int .i64 (wrap64 (bt a0 0)), .slice Ao35 x529001_2.length co35, .slice none 0 0]) ?_ 2 _ rfl; refine kK_ ?_; refine blk_put (cs := #[.int .i64 (wrap64 (bt a0 0)), .slice none 0 0, .slice none 0 0]) ?_ 1 _ rfl; refine kK_ ?_; refine blk_put (cs := #[.int .i64 0, .slice none 0 0, .slice none 0 0]) ?_ 0 _ rfl; exact rK_ BK527.out) Tryd.underlying42 rfl (by kernel_rfl)) rfl ?_
       exact ⟨_, _, by first | rfl | (simp [errW_none, errW_some] <;> rfl) | (simp [*, errW_none, errW_some] <;> rfl), by refine kR_ ?_; exact Kd.R_mono (Kd.R_far (Kd.R_far (Kd.R_far (Kd.R_types HO_529001.out BK527.out (by decide)) (fun _ hk => hk.2) (.int .i64 (wrap64 (bt a0 0)))) (fun _ hk => hk.2) _) (fun _ hk => hk.2) _) (fun _ hk => hk.1), by refine kR_ ?_; exact Kd.R_mono (Kd.R_far (Kd.R_far (Kd.R_far (Kd.R_types HO_529002.out BK527.out (by decide)) (fun _ hk => hk.2) (.int .i64 (wrap64 (bt a0 0)))) (fun _ hk => hk.2) _) (fun _ hk => hk.2) _) (fun _ hk => hk.1), (u0_ GE527.out GE528.out)⟩
      rw [if_pos c14] at H
      have c14b0 := decide_eq_true c14
      clear c14
      obtain ⟨ji15, hji15⟩ : ∃ j_ : Int, (wrap64 (1 + (wrap64 (x20_2 * 4)))) = j_ := ⟨_, rfl⟩
      first | rw [hji15] at H | simp only [hji15] at H
      have hji15w : (IntKind.i64.wrap (1 + (wrap64 (x20_2 * 4)))) = ji15 := (i64_w _).trans hji15
      obtain ⟨c16, H⟩ := iN_ H
      have c16b0 := eq_true c16
      have c16b1 := decide_eq_true c16
      clear c16
      obtain ⟨c17, H⟩ := iN_ H
      have c17b0 := eq_true c17
      have c17b1 := decide_eq_true c17
      obtain ⟨c18, H⟩ := iN_ H
      have c18b0 := eq_true c18
      have c18b1 := decide_eq_true c18
      by_cases c19 : x20_2 < 10
      ·rw [if_pos c19] at H
       have c19b0 := decide_eq_true c19
       clear c19
       obtain ⟨c20, H⟩ := iN_ H
       have LMc20 := Aside0.mk c20
       clear c20
       obtain ⟨y529, hy529⟩ : ∃ y_ : List ByteArray, y_ = (x529001_2 ++ [a0.extract ((ji15) : Int).toNat ((wrap64 (1 + (wrap64 ((wrap64 (x20_2 + 1)) * 4)))) : Int).toNat]) := ⟨_, rfl⟩
       replace H : (impl_ReadSig.l0 k2 a0 (wrap64 (x20_2 + 1)) (wrap64 (bt a0 0)) y529 x529002_2) = some (r1, r2, r3, r4) := by first | (rw [hy529]; with_reducible exact H) | (have H2_ := (Option.bind_some _ _).symm.trans H; rw [hy529]; with_reducible exact H2_) | (have H2_ := (Option.bind_some _ _).symm.trans H; with_reducible exact H2_) | with_reducible exact H | (rw [hy529]; exact H) | exact H
       have Ny529 := Aside0.mk hy529
       clear hy529
       have H' := Aside0.mk H
       clear H
       have hnb21 := NB528_527.out
       have hnc21 := NB527_528.out
       have hcz22_0 : wr.cell? ⟨gb528, 0, none⟩ = some (.int .i64 (wrap64 (bt a0 0))) := (blk_cell BK528.out 0).trans rfl
       have hcz22_1 : wr.cell? ⟨gb528, 1, none⟩ = some (u529001) := (blk_cell BK528.out 1).trans rfl
       have hcz22_2 : wr.cell? ⟨gb528, 2, none⟩ = some (u529002) := (blk_cell BK528.out 2).trans rfl
       have hfz22_0 := blk_frozen BK528.out 0
       have hfz22_1 := blk_frozen BK528.out 1
       have hfz22_2 := blk_frozen BK528.out 2
       go_wp2_with (first | ((with_reducible refine gate_builtin (b := .append) (xs := #[.tmp 35, .tmp 37]) rfl ?_); at_builtin; refine Kd.R_append Kd.string (w0 := w) w.heap.size rfl (.tmp 35) (.tmp 37) 25 9 (.string ⟨#[]⟩) 16 rfl Tryd.underlying25 info9 rfl (by decide) (by omega) u529001 x529001_2 (a0.extract ((ji15) : Int).toNat ((wrap64 (1 + (wrap64 ((wrap64 (x20_2 + 1)) * 4)))) : Int).toNat) [.string (a0.extract ((ji15) : Int).toNat ((wrap64 (1 + (wrap64 ((wrap64 (x20_2 + 1)) * 4)))) : Int).toNat)] (fun k_ => some k_ ≠ (u529002 : Value).ownBlock) (fun _ => False) rfl rfl ?aP (fun _ hk => hk.elim) ?aF ?aO ?aB ?aS ?aL ?_; (case aP => exact rfl); (case aB => exact ((u0_ GE527.out GE528.out))); (case aF => exact (fun k_ hk => Kd.fresh' (Kd.R_lt (rR_ HO_529002.out)) k_ hk)); (case aO => exact (rR_ HO_529001.out)); (case aS => exact (below_size ((u0_ GE527.out GE528.out)))); (case aL => have := LMc20.out; omega); intro v530 w23 ho hb hg hat; rw [← Ny529.out] at ho; have n0_ := Aside0.mk (Kd.R_after (ok := (fun _ => True)) (by refine kR_ ?_; exact Kd.R_mono HO_529002.out (fun _ hk => ⟨trivial, hk⟩)) hg hat); have n1_ := Aside0.mk (blk_grown (g := gb527) (o := .cells #[.int .i64 0, .slice none 0 0, .slice none 0 0] 42 (0, 0)) (rK_ BK527.out) hg (Kd.R_ne HO_529001.out BK527.out (by decide))); have n2_ := Aside0.mk (blk_grown (g := gb528) (o := .cells #[.int .i64 (wrap64 (bt a0 0)), u529001, u529002] 42 (0, 0)) (rK_ BK528.out) hg (Kd.R_ne HO_529001.out BK528.out (by decide))); have n3_ := Aside0.mk (hb); have n4_ := Aside0.mk (ho); clear HO_529001; replace HO_529002 := n0_; replace BK527 := n1_; replace BK528 := n2_; replace HB := n3_; have HO531 := n4_; clear n0_ n1_ n2_ n3_ n4_; clear ho hb hg hat; obtain ⟨Ao24, co24, eo24⟩ := Kd.R_slice HO531.out; subst eo24; have hcz25_0 : w23.cell? ⟨gb528, 0, none⟩ = some (.int .i64 (wrap64 (bt a0 0))) := (blk_cell BK528.out 0).trans rfl; have hcz25_1 : w23.cell? ⟨gb528, 1, none⟩ = some (u529001) := (blk_cell BK528.out 1).trans rfl; have hcz25_2 : w23.cell? ⟨gb528, 2, none⟩ = some (u529002) := (blk_cell BK528.out 2).trans rfl; have hfz25_0 := blk_frozen BK528.out 0; have hfz25_1 := blk_frozen BK528.out 1; have hfz25_2 := blk_frozen BK528.out 2))
       go_roundg k2
       case measure => have := HJ1.out; have := HK2.out; omega
       case rel => exact ⟨(wrap64 (x20_2 + 1)), (y529), (x529002_2), (.slice Ao24 y529.length co24), (u529002), (by first | rfl | (simp; done) | (simp [*]; done)), H', ⟨by have := HJ1.out; have := HK2.out; omega⟩, ⟨by refine kR_ ?_; exact Kd.R_mono (Kd.R_far (Kd.R_types HO531.out BK528.out (by decide)) (fun _ hk => hk.2) _) (fun _ hk => hk.1)⟩, ⟨by refine kR_ ?_; exact Kd.R_mono (Kd.R_far (Kd.R_types HO_529002.out BK528.out (by decide)) (fun _ hk => hk.2) _) (fun _ hk => hk.1.2)⟩, ⟨by refine kK_ ?_; refine blk_far ?_ NB527_528.out _; refine kK_ ?_; exact BK527.out⟩, ⟨by refine kK_ ?_; refine blk_put (cs := #[.int .i64 (wrap64 (bt a0 0)), u529001, u529002]) ?_ 1 _ rfl; refine kK_ ?_; exact BK528.out⟩, ⟨(u0_ GE527.out GE528.out)⟩⟩
      rw [if_neg c19] at H
      have c19b0 := decide_eq_false c19
      clear c19
      obtain ⟨c26, H⟩ := iN_ H
      have LMc26 := Aside0.mk c26
      clear c26
      obtain ⟨y532, hy532⟩ : ∃ y_ : List ByteArray, y_ = (x529002_2 ++ [a0.extract ((ji15) : Int).toNat ((wrap64 (1 + (wrap64 ((wrap64 (x20_2 + 1)) * 4)))) : Int).toNat]) := ⟨_, rfl⟩
      replace H : (impl_ReadSig.l0 k2 a0 (wrap64 (x20_2 + 1)) (wrap64 (bt a0 0)) x529001_2 y532) = some (r1, r2, r3, r4) := by first | (rw [hy532]; with_reducible exact H) | (have H2_ := (Option.bind_some _ _).symm.trans H; rw [hy532]; with_reducible exact H2_) | (have H2_ := (Option.bind_some _ _).symm.trans H; with_reducible exact H2_) | with_reducible exact H | (rw [hy532]; exact H) | exact H
      have Ny532 := Aside0.mk hy532
      clear hy532
      have H' := Aside0.mk H
      clear H
      have hnb27 := NB528_527.out
      have hnc27 := NB527_528.out
      have hcz28_0 : wr.cell? ⟨gb528, 0, none⟩ = some (.int .i64 (wrap64 (bt a0 0))) := (blk_cell BK528.out 0).trans rfl
      have hcz28_1 : wr.cell? ⟨gb528, 1, none⟩ = some (u529001) := (blk_cell BK528.out 1).trans rfl
      have hcz28_2 : wr.cell? ⟨gb528, 2, none⟩ = some (u529002) := (blk_cell BK528.out 2).trans rfl
      have hfz28_0 := blk_frozen BK528.out 0
      have hfz28_1 := blk_frozen BK528.out 1
      have hfz28_2 := blk_frozen BK528.out 2
      go_wp2_with (first | ((with_reducible refine gate_builtin (b := .append) (xs := #[.tmp 41, .tmp 43]) rfl ?_); at_builtin; refine Kd.R_append Kd.string (w0 := w) w.heap.size rfl (.tmp 41) (.tmp 43) 25 9 (.string ⟨#[]⟩) 16 rfl Tryd.underlying25 info9 rfl (by decide) (by omega) u529002 x529002_2 (a0.extract ((ji15) : Int).toNat ((wrap64 (1 + (wrap64 ((wrap64 (x20_2 + 1)) * 4)))) : Int).toNat) [.string (a0.extract ((ji15) : Int).toNat ((wrap64 (1 + (wrap64 ((wrap64 (x20_2 + 1)) * 4)))) : Int).toNat)] (fun k_ => some k_ ≠ (u529001 : Value).ownBlock) (fun _ => False) rfl rfl ?aP (fun _ hk => hk.elim) ?aF ?aO ?aB ?aS ?aL ?_; (case aP => exact rfl); (case aB => exact ((u0_ GE527.out GE528.out))); (case aF => exact (fun k_ hk => Kd.fresh' (Kd.R_lt (rR_ HO_529001.out)) k_ hk)); (case aO => exact (rR_ HO_529002.out)); (case aS => exact (below_size ((u0_ GE527.out GE528.out)))); (case aL => have := LMc26.out; omega); intro v533 w29 ho hb hg hat; rw [← Ny532.out] at ho; have n0_ := Aside0.mk (Kd.R_after (ok := (fun _ => True)) (by refine kR_ ?_; exact Kd.R_mono HO_529001.out (fun _ hk => ⟨trivial, hk⟩)) hg hat); have n1_ := Aside0.mk (blk_grown (g := gb527) (o := .cells #[.int .i64 0, .slice none 0 0, .slice none 0 0] 42 (0, 0)) (rK_ BK527.out) hg (Kd.R_ne HO_529002.out BK527.out (by decide))); have n2_ := Aside0.mk (blk_grown (g := gb528) (o := .cells #[.int .i64 (wrap64 (bt a0 0)), u529001, u529002] 42 (0, 0)) (rK_ BK528.out) hg (Kd.R_ne HO_529002.out BK528.out (by decide))); have n3_ := Aside0.mk (hb); have n4_ := Aside0.mk (ho); clear HO_529002; replace HO_529001 := n0_; replace BK527 := n1_; replace BK528 := n2_; replace HB := n3_; have HO534 := n4_; clear n0_ n1_ n2_ n3_ n4_; clear ho hb hg hat; obtain ⟨Ao30, co30, eo30⟩ := Kd.R_slice HO534.out; subst eo30; have hcz31_0 : w29.cell? ⟨gb528, 0, none⟩ = some (.int .i64 (wrap64 (bt a0 0))) := (blk_cell BK528.out 0).trans rfl; have hcz31_1 : w29.cell? ⟨gb528, 1, none⟩ = some (u529001) := (blk_cell BK528.out 1).trans rfl; have hcz31_2 : w29.cell? ⟨gb528, 2, none⟩ = some (u529002) := (blk_cell BK528.out 2).trans rfl; have hfz31_0 := blk_frozen BK528.out 0; have hfz31_1 := blk_frozen BK528.out 1; have hfz31_2 := blk_frozen BK528.out 2))
      go_roundg k2
      case measure => have := HJ1.out; have := HK2.out; omega
      case rel => exact ⟨(wrap64 (x20_2 + 1)), (x529001_2), (y532), (u529001), (.slice Ao30 y532.length co30), (by first | rfl | (simp; done) | (simp [*]; done)), H', ⟨by have := HJ1.out; have := HK2.out; omega⟩, ⟨by refine kR_ ?_; exact Kd.R_mono (Kd.R_far (Kd.R_types HO_529001.out BK528.out (by decide)) (fun _ hk => hk.2) _) (fun _ hk => hk.1.2)⟩, ⟨by refine kR_ ?_; exact Kd.R_mono (Kd.R_far (Kd.R_types HO534.out BK528.out (by decide)) (fun _ hk => hk.2) _) (fun _ hk => hk.1)⟩, ⟨by refine kK_ ?_; refine blk_far ?_ NB527_528.out _; refine kK_ ?_; exact BK527.out⟩, ⟨by refine kK_ ?_; refine blk_put (cs := #[.int .i64 (wrap64 (bt a0 0)), u529001, u529002]) ?_ 2 _ rfl; refine kK_ ?_; exact BK528.out⟩, ⟨(u0_ GE527.out GE528.out)⟩⟩

/-! ### impl_ReadHyper: function 59 -/
def impl_ReadHyper.f (k : Nat) (a0 : ByteArray) : Option (Int × List ByteArray × List ByteArray × ByteArray × Int × List ByteArray × List ByteArray × Bool) := if (a0.size : Int) = 102 then (if 0 ≤ 49 then (if 49 ≤ (a0.size : Int) then ((impl_ReadSig.f k (a0.extract 0 49)).bind fun bt536 => (if 53 ≤ (a0.size : Int) then ((impl_ReadSig.f k (a0.extract 53 a0.size)).bind fun bt545 => (if bt536.2.2.2 = true then (if bt545.2.2.2 = true then (if 49 ≤ 53 then (some (bt536.1, bt536.2.1, bt536.2.2.1, a0.extract 49 53, bt545.1, bt545.2.1, bt545.2.2.1, true)) else (none)) else (some (0, ([] : List ByteArray), ([] : List ByteArray), (⟨#[]⟩ : ByteArray), 0, ([] : List ByteArray), ([] : List ByteArray), false))) else (some (0, ([] : List ByteArray), ([] : List ByteArray), (⟨#[]⟩ : ByteArray), 0, ([] : List ByteArray), ([] : List ByteArray), false)))) else (none))) else (none)) else (none)) else (some (0, ([] : List ByteArray), ([] : List ByteArray), (⟨#[]⟩ : ByteArray), 0, ([] : List ByteArray), ([] : List ByteArray), false))
theorem impl_ReadHyper.mono : ∀ a0 k, LeO (impl_ReadHyper.f k a0) (impl_ReadHyper.f (k + 1) a0) := by
 intro a0 k
 unfold impl_ReadHyper.f
 repeat' first
   | (with_reducible exact impl_ReadSig.mono _ _)
   | (with_reducible exact LeO.refl _)
   | (with_reducible exact LeO.none _)
   | (with_reducible refine LeO.ite ?_ ?_)
   | (with_reducible refine LeO.bind ?_ (fun _ => ?_))
   | exact impl_ReadSig.mono _ _
   | exact LeO.none _
   | refine LeO.ite ?_ ?_
   | refine LeO.bind ?_ (fun _ => ?_)
theorem impl_ReadHyper.calls (k : Nat) (a0 : ByteArray) (r1 : Int) (r2 : List ByteArray) (r3 : List ByteArray) (r4 : ByteArray) (r5 : Int) (r6 : List ByteArray) (r7 : List ByteArray) (r8 : Bool) (w : World) (h : impl_ReadHyper.f k a0 = some (r1, r2, r3, r4, r5, r6, r7, r8)) :
  Calls Tryd.prog 59 #[.string a0] w fun e w' => ∃ v1_ v2_ v5_ v6_ : Value, e = .returned (.tuple #[.agg #[.int .i64 r1, v1_, v2_, .string r4, .int .i64 r5, v5_, v6_], .bool r8]) ∧ Kd.R Kd.string 9 w' w.heap.size (fun k_ => some k_ ≠ (v2_ : Value).ownBlock ∧ some k_ ≠ (v5_ : Value).ownBlock ∧ some k_ ≠ (v6_ : Value).ownBlock) v1_ r2 ∧ Kd.R Kd.string 9 w' w.heap.size (fun k_ => some k_ ≠ (v1_ : Value).ownBlock ∧ some k_ ≠ (v5_ : Value).ownBlock ∧ some k_ ≠ (v6_ : Value).ownBlock) v2_ r3 ∧ Kd.R Kd.string 9 w' w.heap.size (fun k_ => some k_ ≠ (v1_ : Value).ownBlock ∧ some k_ ≠ (v2_ : Value).ownBlock ∧ some k_ ≠ (v6_ : Value).ownBlock) v5_ r6 ∧ Kd.R Kd.string 9 w' w.heap.size (fun k_ => some k_ ≠ (v1_ : Value).ownBlock ∧ some k_ ≠ (v2_ : Value).ownBlock ∧ some k_ ≠ (v5_ : Value).ownBlock) v6_ r7 ∧ Below w.heap.size w w' := by
 have hu51 := Tryd.underlying51
 have hu42 := Tryd.underlying42
 have HB := Aside0.mk (Below.refl w.heap.size w)
 have H : (if (a0.size : Int) = 102 then (if 0 ≤ 49 then (if 49 ≤ (a0.size : Int) then ((impl_ReadSig.f k (a0.extract 0 49)).bind fun bt536 => (if 53 ≤ (a0.size : Int) then ((impl_ReadSig.f k (a0.extract 53 a0.size)).bind fun bt545 => (if bt536.2.2.2 = true then (if bt545.2.2.2 = true then (if 49 ≤ 53 then (some (bt536.1, bt536.2.1, bt536.2.2.1, a0.extract 49 53, bt545.1, bt545.2.1, bt545.2.2.1, true)) else (none)) else (some (0, ([] : List ByteArray), ([] : List ByteArray), (⟨#[]⟩ : ByteArray), 0, ([] : List ByteArray), ([] : List ByteArray), false))) else (some (0, ([] : List ByteArray), ([] : List ByteArray), (⟨#[]⟩ : ByteArray), 0, ([] : List ByteArray), ([] : List ByteArray), false)))) else (none))) else (none)) else (none)) else (some (0, ([] : List ByteArray), ([] : List ByteArray), (⟨#[]⟩ : ByteArray), 0, ([] : List ByteArray), ([] : List ByteArray), false))) = some (r1, r2, r3, r4, r5, r6, r7, r8) := h
 clear h
 by_cases c2 : (a0.size : Int) = 102
 rotate_left
 ·rw [if_neg c2] at H
  have c2b0 : ((a0.size : Int) == 102) = false := beq_eq_false_iff_ne.mpr c2
  have c2b1 : ((a0.size : Int) != 102) = true := bne_iff_ne.mpr c2
  simp only [Option.some.injEq, Prod.mk.injEq] at H
  obtain ⟨rfl, rfl, rfl, rfl, rfl, rfl, rfl, rfl⟩ := H
  go_enter Tryd.func59, Tryd.ntmps59
  go_wp2_with (first | ((with_reducible refine gate_dst (N := 2) rfl ?_); refine box_event ?hg (N := 2) ?hd (cs := #[.int .i64 0, .slice none 0 0, .slice none 0 0, .string (⟨#[]⟩ : ByteArray), .int .i64 0, .slice none 0 0, .slice none 0 0]) (t := 51) ?hr ?_; (case hd => rfl); (case hg => rfl); (case hr => first | (go_simp; done) | (go_simp; rfl)); intro gb535 hg w65 hbox hb; have n0_ := Aside0.mk (below_step (hB_) hb); have n1_ := Aside0.mk (hbox); have n2_ := Aside0.mk ((by rw [hg]; exact (below_size (hB_)) : w.heap.size ≤ gb535)); have n3_ := Aside0.mk ((by rw [hg]; exact (below_size (hB_)) : w.heap.size ≤ gb535)); replace HB := n0_; have BK535 := n1_; have GW535 := n2_; have GE535 := n3_; clear n0_ n1_ n2_ n3_; clear hb hbox hg; have hcz66_0 : w65.cell? ⟨gb535, 0, none⟩ = some (.int .i64 0) := (blk_cell BK535.out 0).trans rfl; have hcz66_1 : w65.cell? ⟨gb535, 1, none⟩ = some (.slice none 0 0) := (blk_cell BK535.out 1).trans rfl; have hcz66_2 : w65.cell? ⟨gb535, 2, none⟩ = some (.slice none 0 0) := (blk_cell BK535.out 2).trans rfl; have hcz66_3 : w65.cell? ⟨gb535, 3, none⟩ = some (.string (⟨#[]⟩ : ByteArray)) := (blk_cell BK535.out 3).trans rfl; have hcz66_4 : w65.cell? ⟨gb535, 4, none⟩ = some (.int .i64 0) := (blk_cell BK535.out 4).trans rfl; have hcz66_5 : w65.cell? ⟨gb535, 5, none⟩ = some (.slice none 0 0) := (blk_cell BK535.out 5).trans rfl; have hcz66_6 : w65.cell? ⟨gb535, 6, none⟩ = some (.slice none 0 0) := (blk_cell BK535.out 6).trans rfl; have hfz66_0 := blk_frozen BK535.out 0; have hfz66_1 := blk_frozen BK535.out 1; have hfz66_2 := blk_frozen BK535.out 2; have hfz66_3 := blk_frozen BK535.out 3; have hfz66_4 := blk_frozen BK535.out 4; have hfz66_5 := blk_frozen BK535.out 5; have hfz66_6 := blk_frozen BK535.out 6))
  refine bodyPost_ret (results_ct rfl _ _ gb535 51 #[.int .i64 0, .slice none 0 0, .slice none 0 0, .string (⟨#[]⟩ : ByteArray), .int .i64 0, .slice none 0 0, .slice none 0 0] (0, 0) _ rfl (by refine kK_ ?_; refine blk_put (cs := #[.int .i64 0, .slice none 0 0, .slice none 0 0, .string (⟨#[]⟩ : ByteArray), .int .i64 0, .slice none 0 0, .slice none 0 0]) ?_ 6 _ rfl; refine kK_ ?_; refine blk_put (cs := #[.int .i64 0, .slice none 0 0, .slice none 0 0, .string (⟨#[]⟩ : ByteArray), .int .i64 0, .slice none 0 0, .slice none 0 0]) ?_ 5 _ rfl; refine kK_ ?_; refine blk_put (cs := #[.int .i64 0, .slice none 0 0, .slice none 0 0, .string (⟨#[]⟩ : ByteArray), .int .i64 0, .slice none 0 0, .slice none 0 0]) ?_ 4 _ rfl; refine kK_ ?_; refine blk_put (cs := #[.int .i64 0, .slice none 0 0, .slice none 0 0, .string (⟨#[]⟩ : ByteArray), .int .i64 0, .slice none 0 0, .slice none 0 0]) ?_ 3 _ rfl; refine kK_ ?_; refine blk_put (cs := #[.int .i64 0, .slice none 0 0, .slice none 0 0, .string (⟨#[]⟩ : ByteArray), .int .i64 0, .slice none 0 0, .slice none 0 0]) ?_ 2 _ rfl; refine kK_ ?_; refine blk_put (cs := #[.int .i64 0, .slice none 0 0, .slice none 0 0, .string (⟨#[]⟩ : ByteArray), .int .i64 0, .slice none 0 0, .slice none 0 0]) ?_ 1 _ rfl; refine kK_ ?_; refine blk_put (cs := #[.int .i64 0, .slice none 0 0, .slice none 0 0, .string (⟨#[]⟩ : ByteArray), .int .i64 0, .slice none 0 0, .slice none 0 0]) ?_ 0 _ rfl; exact rK_ BK535.out) Tryd.underlying51 rfl (by kernel_rfl)) rfl ?_
  exact ⟨_, _, _, _, by first | rfl | (simp [errW_none, errW_some] <;> rfl) | (simp [*, errW_none, errW_some] <;> rfl), by first | exact Kd.R_nil _ _ _ _ _ | exact Kd.N_nil _ _ _ _ _ | exact Kd.V_nil _ _ _ _ _ | exact Kd.Q_nil _ _ _ _ _ | exact Kd.S_nil _ _ _ _ _, by first | exact Kd.R_nil _ _ _ _ _ | exact Kd.N_nil _ _ _ _ _ | exact Kd.V_nil _ _ _ _ _ | exact Kd.Q_nil _ _ _ _ _ | exact Kd.S_nil _ _ _ _ _, by first | exact Kd.R_nil _ _ _ _ _ | exact Kd.N_nil _ _ _ _ _ | exact Kd.V_nil _ _ _ _ _ | exact Kd.Q_nil _ _ _ _ _ | exact Kd.S_nil _ _ _ _ _, by first | exact Kd.R_nil _ _ _ _ _ | exact Kd.N_nil _ _ _ _ _ | exact Kd.V_nil _ _ _ _ _ | exact Kd.Q_nil _ _ _ _ _ | exact Kd.S_nil _ _ _ _ _, hS_ GE535.out⟩
 rw [if_pos c2] at H
 have c2b0 : ((a0.size : Int) == 102) = true := beq_iff_eq.mpr c2
 have c2b1 : ((a0.size : Int) != 102) = false := bne_eq_false_iff_eq.mpr c2
 clear c2
 obtain ⟨c3, H⟩ := iN_ H
 have c3b0 := eq_true c3
 have c3b1 := decide_eq_true c3
 clear c3
 obtain ⟨c4, H⟩ := iN_ H
 have c4b0 := eq_true c4
 have c4b1 := decide_eq_true c4
 clear c4
 replace H := Option.bind_eq_some_iff.mp H
 obtain ⟨⟨t536, t537, t540, t543⟩, A50, H⟩ := H
 try dsimp -simprocs only at H
 have A5 := Aside0.mk A50
 clear A50
 obtain ⟨c6, H⟩ := iN_ H
 have c6b0 := eq_true c6
 have c6b1 := decide_eq_true c6
 clear c6
 replace H := Option.bind_eq_some_iff.mp H
 obtain ⟨⟨t545, t546, t549, t552⟩, A70, H⟩ := H
 try dsimp -simprocs only at H
 have A7 := Aside0.mk A70
 clear A70
 by_cases c8 : t543 = true
 ·subst c8
  have H1 : (if t552 = true then (if 49 ≤ 53 then (some (t536, t537, t540, a0.extract 49 53, t545, t546, t549, true)) else (none)) else (some (0, ([] : List ByteArray), ([] : List ByteArray), (⟨#[]⟩ : ByteArray), 0, ([] : List ByteArray), ([] : List ByteArray), false))) = some (r1, r2, r3, r4, r5, r6, r7, r8) := by rw [if_pos rfl] at H; exact H
  clear H
  have H := H1
  clear H1
  by_cases c9 : t552 = true
  ·subst c9
   have H1 : (if 49 ≤ 53 then (some (t536, t537, t540, a0.extract 49 53, t545, t546, t549, true)) else (none)) = some (r1, r2, r3, r4, r5, r6, r7, r8) := by rw [if_pos rfl] at H; exact H
   clear H
   have H := H1
   clear H1
   obtain ⟨c10, H⟩ := iN_ H
   have c10b0 := eq_true c10
   have c10b1 := decide_eq_true c10
   clear c10
   have c11b0 := eq_true (of_decide_eq_true (by first | (with_reducible assumption) | assumption) : 53 ≤ (a0.size : Int))
   simp only [Option.some.injEq, Prod.mk.injEq] at H
   obtain ⟨rfl, rfl, rfl, rfl, rfl, rfl, rfl, rfl⟩ := H
   go_enter Tryd.func59, Tryd.ntmps59
   try go_wp2_with (first | ((with_reducible refine gate_dst (N := 2) rfl ?_); refine box_event ?hg (N := 2) ?hd (cs := #[.int .i64 0, .slice none 0 0, .slice none 0 0, .string (⟨#[]⟩ : ByteArray), .int .i64 0, .slice none 0 0, .slice none 0 0]) (t := 51) ?hr ?_; (case hd => rfl); (case hg => rfl); (case hr => first | (go_simp; done) | (go_simp; rfl)); intro gb535 hg w12 hbox hb; have n0_ := Aside0.mk (below_step (hB_) hb); have n1_ := Aside0.mk (hbox); have n2_ := Aside0.mk ((by rw [hg]; exact (below_size (hB_)) : w.heap.size ≤ gb535)); have n3_ := Aside0.mk ((by rw [hg]; exact (below_size (hB_)) : w.heap.size ≤ gb535)); replace HB := n0_; have BK535 := n1_; have GW535 := n2_; have GE535 := n3_; clear n0_ n1_ n2_ n3_; clear hb hbox hg) | ((with_reducible refine gate_callee (f := 46) rfl ?_); refine goesL_ (some 15) rfl rfl Tryd.func46 (by kernel_rfl) rfl #[.string (a0.extract 0 49)] rfl aM_ ?_; (with_reducible refine (impl_ReadSig.calls k (a0.extract 0 49) t536 t537 t540 true _ A5.out).mono ?_); rintro e w13 ⟨v538, v541, rfl, ho0, ho1, hb⟩; refine ⟨_, rfl, ?_⟩; have n0_ := Aside0.mk (Kd.R_lower ho0 (below_size (hS_ GE535.out))); have n1_ := Aside0.mk (Kd.R_lower ho1 (below_size (hS_ GE535.out))); have n2_ := Aside0.mk (blk_below (g := gb535) (o := .cells #[.int .i64 0, .slice none 0 0, .slice none 0 0, .string (⟨#[]⟩ : ByteArray), .int .i64 0, .slice none 0 0, .slice none 0 0] 51 (0, 0)) (rK_ BK535.out) hb); have n3_ := Aside0.mk (below_step (hS_ GE535.out) hb); have HO539 := n0_; have HO542 := n1_; replace BK535 := n2_; replace HB := n3_; clear n0_ n1_ n2_ n3_; (try clear hb); (try clear ho0); (try clear ho1)) | ((with_reducible refine gate_dst (N := 4) rfl ?_); refine box_event ?hg (N := 4) ?hd (cs := #[.int .i64 0, .slice none 0 0, .slice none 0 0]) (t := 42) ?hr ?_; (case hd => rfl); (case hg => rfl); (case hr => first | (go_simp; done) | (go_simp; rfl)); intro gb544 hg w14 hbox hb; have n0_ := Aside0.mk (Kd.R_below (rR_ HO539.out) hb); have n1_ := Aside0.mk (Kd.R_below (rR_ HO542.out) hb); have n2_ := Aside0.mk (blk_below (g := gb535) (o := .cells #[.int .i64 0, .slice none 0 0, .slice none 0 0, .string (⟨#[]⟩ : ByteArray), .int .i64 0, .slice none 0 0, .slice none 0 0] 51 (0, 0)) (rK_ BK535.out) hb); have n3_ := Aside0.mk (below_step (hS_ GE535.out) hb); have n4_ := Aside0.mk (hbox); have n5_ := Aside0.mk ((by rw [hg]; exact (below_size (hS_ GE535.out)) : w.heap.size ≤ gb544)); have n6_ := Aside0.mk ((by rw [hg]; exact (below_size (hS_ GE535.out)) : w.heap.size ≤ gb544)); have n7_ := Aside0.mk ((by rw [hg]; exact Nat.ne_of_lt (blk_lt (g := gb535) (o := .cells #[.int .i64 0, .slice none 0 0, .slice none 0 0, .string (⟨#[]⟩ : ByteArray), .int .i64 0, .slice none 0 0, .slice none 0 0] 51 (0, 0)) (rK_ BK535.out)) : gb535 ≠ gb544)); have n8_ := Aside0.mk ((by rw [hg]; exact Nat.ne_of_gt (blk_lt (g := gb535) (o := .cells #[.int .i64 0, .slice none 0 0, .slice none 0 0, .string (⟨#[]⟩ : ByteArray), .int .i64 0, .slice none 0 0, .slice none 0 0] 51 (0, 0)) (rK_ BK535.out)) : gb544 ≠ gb535)); replace HO539 := n0_; replace HO542 := n1_; replace BK535 := n2_; replace HB := n3_; have BK544 := n4_; have GW544 := n5_; have GE544 := n6_; have NB535_544 := n7_; have NB544_535 := n8_; clear n0_ n1_ n2_ n3_ n4_ n5_ n6_ n7_ n8_; clear hb hbox hg; have hnb15 := NB544_535.out; have hnc15 := NB535_544.out; have hcz16_0 : w14.cell? ⟨gb544, 0, none⟩ = some (.int .i64 0) := (blk_cell BK544.out 0).trans rfl; have hcz16_1 : w14.cell? ⟨gb544, 1, none⟩ = some (.slice none 0 0) := (blk_cell BK544.out 1).trans rfl; have hcz16_2 : w14.cell? ⟨gb544, 2, none⟩ = some (.slice none 0 0) := (blk_cell BK544.out 2).trans rfl; have hfz16_0 := blk_frozen BK544.out 0; have hfz16_1 := blk_frozen BK544.out 1; have hfz16_2 := blk_frozen BK544.out 2; obtain ⟨Ao17, co17, eo17⟩ := Kd.R_slice HO539.out; subst eo17; obtain ⟨Ao18, co18, eo18⟩ := Kd.R_slice HO542.out; subst eo18) | ((with_reducible refine gate_callee (f := 46) rfl ?_); refine goesL_ (some 21) rfl rfl Tryd.func46 (by kernel_rfl) rfl #[.string (a0.extract 53 a0.size)] rfl aM_ ?_; (with_reducible refine (impl_ReadSig.calls k (a0.extract 53 a0.size) t545 t546 t549 true _ A7.out).mono ?_); rintro e w19 ⟨v547, v550, rfl, ho0, ho1, hb⟩; refine ⟨_, rfl, ?_⟩; have n0_ := Aside0.mk (Kd.R_mono (Kd.R_told (Kd.R_told (Kd.R_old (by refine kR_ ?_; exact (Kd.R_mono (Kd.R_far (Kd.R_far (Kd.R_far (Kd.R_types HO539.out BK544.out (by decide)) (fun _ hk => hk.2) _) (fun _ hk => hk.2) _) (fun _ hk => hk.2) _) (fun _ h_ => h_.1))) hb) (Kd.R_base ho0)) (Kd.R_base ho1)) (fun _ h_ => h_.1)); have n1_ := Aside0.mk (Kd.R_mono (Kd.R_told (Kd.R_told (Kd.R_old (by refine kR_ ?_; exact (Kd.R_mono (Kd.R_far (Kd.R_far (Kd.R_far (Kd.R_types HO542.out BK544.out (by decide)) (fun _ hk => hk.2) _) (fun _ hk => hk.2) _) (fun _ hk => hk.2) _) (fun _ h_ => h_.1))) hb) (Kd.R_base ho0)) (Kd.R_base ho1)) (fun _ h_ => h_.1)); have n2_ := Aside0.mk (Kd.R_lower (Kd.R_new' (Kd.R_new' ho0 (Kd.R_lt (by refine kR_ ?_; exact (Kd.R_mono (Kd.R_far (Kd.R_far (Kd.R_far (Kd.R_types HO539.out BK544.out (by decide)) (fun _ hk => hk.2) _) (fun _ hk => hk.2) _) (fun _ hk => hk.2) _) (fun _ h_ => h_.1))))) (Kd.R_lt (by refine kR_ ?_; exact (Kd.R_mono (Kd.R_far (Kd.R_far (Kd.R_far (Kd.R_types HO542.out BK544.out (by decide)) (fun _ hk => hk.2) _) (fun _ hk => hk.2) _) (fun _ hk => hk.2) _) (fun _ h_ => h_.1))))) (below_size ((u0_ GE535.out GE544.out)))); have n3_ := Aside0.mk (Kd.R_lower (Kd.R_new' (Kd.R_new' ho1 (Kd.R_lt (by refine kR_ ?_; exact (Kd.R_mono (Kd.R_far (Kd.R_far (Kd.R_far (Kd.R_types HO539.out BK544.out (by decide)) (fun _ hk => hk.2) _) (fun _ hk => hk.2) _) (fun _ hk => hk.2) _) (fun _ h_ => h_.1))))) (Kd.R_lt (by refine kR_ ?_; exact (Kd.R_mono (Kd.R_far (Kd.R_far (Kd.R_far (Kd.R_types HO542.out BK544.out (by decide)) (fun _ hk => hk.2) _) (fun _ hk => hk.2) _) (fun _ hk => hk.2) _) (fun _ h_ => h_.1))))) (below_size ((u0_ GE535.out GE544.out)))); have n4_ := Aside0.mk (blk_below (g := gb535) (o := .cells #[.int .i64 0, .slice none 0 0, .slice none 0 0, .string (⟨#[]⟩ : ByteArray), .int .i64 0, .slice none 0 0, .slice none 0 0] 51 (0, 0)) (by refine kK_ ?_; refine blk_far ?_ NB535_544.out _; refine kK_ ?_; refine blk_far ?_ NB535_544.out _; refine kK_ ?_; refine blk_far ?_ NB535_544.out _; exact rK_ BK535.out) hb); have n5_ := Aside0.mk (blk_below (g := gb544) (o := .cells #[.int .i64 t536, .slice Ao17 t537.length co17, .slice Ao18 t540.length co18] 42 (0, 0)) (by refine kK_ ?_; refine blk_put (cs := #[.int .i64 t536, .slice Ao17 t537.length co17, .slice none 0 0]) ?_ 2 _ rfl; refine kK_ ?_; refine blk_put (cs := #[.int .i64 t536, .slice none 0 0, .slice none 0 0]) ?_ 1 _ rfl; refine kK_ ?_; refine blk_put (cs := #[.int .i64 0, .slice none 0 0, .slice none 0 0]) ?_ 0 _ rfl; exact rK_ BK544.out) hb); have n6_ := Aside0.mk (below_step ((u0_ GE535.out GE544.out)) hb); replace HO539 := n0_; replace HO542 := n1_; have HO548 := n2_; have HO551 := n3_; replace BK535 := n4_; replace BK544 := n5_; replace HB := n6_; clear n0_ n1_ n2_ n3_ n4_ n5_ n6_; (try clear hb); (try clear ho0); (try clear ho1)) | ((with_reducible refine gate_dst (N := 6) rfl ?_); refine box_event ?hg (N := 6) ?hd (cs := #[.int .i64 0, .slice none 0 0, .slice none 0 0]) (t := 42) ?hr ?_; (case hd => rfl); (case hg => rfl); (case hr => first | (go_simp; done) | (go_simp; rfl)); intro gb553 hg w20 hbox hb; have n0_ := Aside0.mk (Kd.R_below (rR_ HO539.out) hb); have n1_ := Aside0.mk (Kd.R_below (rR_ HO542.out) hb); have n2_ := Aside0.mk (Kd.R_below (rR_ HO548.out) hb); have n3_ := Aside0.mk (Kd.R_below (rR_ HO551.out) hb); have n4_ := Aside0.mk (blk_below (g := gb535) (o := .cells #[.int .i64 0, .slice none 0 0, .slice none 0 0, .string (⟨#[]⟩ : ByteArray), .int .i64 0, .slice none 0 0, .slice none 0 0] 51 (0, 0)) (rK_ BK535.out) hb); have n5_ := Aside0.mk (blk_below (g := gb544) (o := .cells #[.int .i64 t536, .slice Ao17 t537.length co17, .slice Ao18 t540.length co18] 42 (0, 0)) (rK_ BK544.out) hb); have n6_ := Aside0.mk (below_step ((u0_ GE535.out GE544.out)) hb); have n7_ := Aside0.mk (hbox); have n8_ := Aside0.mk ((by rw [hg]; exact (below_size ((u0_ GE535.out GE544.out))) : w.heap.size ≤ gb553)); have n9_ := Aside0.mk ((by rw [hg]; exact (below_size ((u0_ GE535.out GE544.out))) : w.heap.size ≤ gb553)); have n10_ := Aside0.mk ((by rw [hg]; exact Nat.ne_of_lt (blk_lt (g := gb535) (o := .cells #[.int .i64 0, .slice none 0 0, .slice none 0 0, .string (⟨#[]⟩ : ByteArray), .int .i64 0, .slice none 0 0, .slice none 0 0] 51 (0, 0)) (rK_ BK535.out)) : gb535 ≠ gb553)); have n11_ := Aside0.mk ((by rw [hg]; exact Nat.ne_of_gt (blk_lt (g := gb535) (o := .cells #[.int .i64 0, .slice none 0 0, .slice none 0 0, .string (⟨#[]⟩ : ByteArray), .int .i64 0, .slice none 0 0, .slice none 0 0] 51 (0, 0)) (rK_ BK535.out)) : gb553 ≠ gb535)); have n12_ := Aside0.mk ((by rw [hg]; exact Nat.ne_of_lt (blk_lt (g := gb544) (o := .cells #[.int .i64 t536, .slice Ao17 t537.length co17, .slice Ao18 t540.length co18] 42 (0, 0)) (rK_ BK544.out)) : gb544 ≠ gb553)); have n13_ := Aside0.mk ((by rw [hg]; exact Nat.ne_of_gt (blk_lt (g := gb544) (o := .cells #[.int .i64 t536, .slice Ao17 t537.length co17, .slice Ao18 t540.length co18] 42 (0, 0)) (rK_ BK544.out)) : gb553 ≠ gb544)); replace HO539 := n0_; replace HO542 := n1_; replace HO548 := n2_; replace HO551 := n3_; replace BK535 := n4_; replace BK544 := n5_; replace HB := n6_; have BK553 := n7_; have GW553 := n8_; have GE553 := n9_; have NB535_553 := n10_; have NB553_535 := n11_; have NB544_553 := n12_; have NB553_544 := n13_; clear n0_ n1_ n2_ n3_ n4_ n5_ n6_ n7_ n8_ n9_ n10_ n11_ n12_ n13_; clear hb hbox hg; have hnb21 := NB553_535.out; have hnc21 := NB535_553.out; have hnb22 := NB553_544.out; have hnc22 := NB544_553.out; have hcz23_0 : w20.cell? ⟨gb553, 0, none⟩ = some (.int .i64 0) := (blk_cell BK553.out 0).trans rfl; have hcz23_1 : w20.cell? ⟨gb553, 1, none⟩ = some (.slice none 0 0) := (blk_cell BK553.out 1).trans rfl; have hcz23_2 : w20.cell? ⟨gb553, 2, none⟩ = some (.slice none 0 0) := (blk_cell BK553.out 2).trans rfl; have hfz23_0 := blk_frozen BK553.out 0; have hfz23_1 := blk_frozen BK553.out 1; have hfz23_2 := blk_frozen BK553.out 2; obtain ⟨Ao24, co24, eo24⟩ := Kd.R_slice HO548.out; subst eo24; obtain ⟨Ao25, co25, eo25⟩ := Kd.R_slice HO551.out; subst eo25))
   have n0_ : Aside0 (Kd.R Kd.string 9 (((w20.setCell ⟨gb553, 0, none⟩ (.int .i64 t545)).setCell ⟨gb553, 1, none⟩ (.slice Ao24 t546.length co24)).setCell ⟨gb553, 2, none⟩ (.slice Ao25 t549.length co25)) w.heap.size (fun k_ => some k_ ≠ (.slice Ao18 t540.length co18 : Value).ownBlock ∧ some k_ ≠ (.slice Ao24 t546.length co24 : Value).ownBlock ∧ some k_ ≠ (.slice Ao25 t549.length co25 : Value).ownBlock) (.slice Ao17 t537.length co17) t537) := ⟨by refine kR_ ?_; exact Kd.R_mono (Kd.R_far (Kd.R_far (Kd.R_far (Kd.R_types HO539.out BK553.out (by decide)) (fun _ hk => hk.2) _) (fun _ hk => hk.2) _) (fun _ hk => hk.2) _) (fun _ hk => ⟨hk.1.1.1, ⟨hk.1.1.2, hk.1.2⟩⟩)⟩
   have n1_ : Aside0 (Kd.R Kd.string 9 (((w20.setCell ⟨gb553, 0, none⟩ (.int .i64 t545)).setCell ⟨gb553, 1, none⟩ (.slice Ao24 t546.length co24)).setCell ⟨gb553, 2, none⟩ (.slice Ao25 t549.length co25)) w.heap.size (fun k_ => some k_ ≠ (.slice Ao17 t537.length co17 : Value).ownBlock ∧ some k_ ≠ (.slice Ao24 t546.length co24 : Value).ownBlock ∧ some k_ ≠ (.slice Ao25 t549.length co25 : Value).ownBlock) (.slice Ao18 t540.length co18) t540) := ⟨by refine kR_ ?_; exact Kd.R_mono (Kd.R_far (Kd.R_far (Kd.R_far (Kd.R_types HO542.out BK553.out (by decide)) (fun _ hk => hk.2) _) (fun _ hk => hk.2) _) (fun _ hk => hk.2) _) (fun _ hk => ⟨hk.1.1.1, ⟨hk.1.1.2, hk.1.2⟩⟩)⟩
   have n2_ : Aside0 (Kd.R Kd.string 9 (((w20.setCell ⟨gb553, 0, none⟩ (.int .i64 t545)).setCell ⟨gb553, 1, none⟩ (.slice Ao24 t546.length co24)).setCell ⟨gb553, 2, none⟩ (.slice Ao25 t549.length co25)) w.heap.size (fun k_ => some k_ ≠ (.slice Ao17 t537.length co17 : Value).ownBlock ∧ some k_ ≠ (.slice Ao18 t540.length co18 : Value).ownBlock ∧ some k_ ≠ (.slice Ao25 t549.length co25 : Value).ownBlock) (.slice Ao24 t546.length co24) t546) := ⟨by refine kR_ ?_; exact Kd.R_mono (Kd.R_far (Kd.R_far (Kd.R_far (Kd.R_types HO548.out BK553.out (by decide)) (fun _ hk => hk.2) _) (fun _ hk => hk.2) _) (fun _ hk => hk.2) _) (fun _ hk => ⟨hk.1.1.2, ⟨hk.1.2, hk.1.1.1⟩⟩)⟩
   have n3_ : Aside0 (Kd.R Kd.string 9 (((w20.setCell ⟨gb553, 0, none⟩ (.int .i64 t545)).setCell ⟨gb553, 1, none⟩ (.slice Ao24 t546.length co24)).setCell ⟨gb553, 2, none⟩ (.slice Ao25 t549.length co25)) w.heap.size (fun k_ => some k_ ≠ (.slice Ao17 t537.length co17 : Value).ownBlock ∧ some k_ ≠ (.slice Ao18 t540.length co18 : Value).ownBlock ∧ some k_ ≠ (.slice Ao24 t546.length co24 : Value).ownBlock) (.slice Ao25 t549.length co25) t549) := ⟨by refine kR_ ?_; exact Kd.R_mono (Kd.R_far (Kd.R_far (Kd.R_far (Kd.R_types HO551.out BK553.out (by decide)) (fun _ hk => hk.2) _) (fun _ hk => hk.2) _) (fun _ hk => hk.2) _) (fun _ hk => ⟨hk.1.1.2, ⟨hk.1.2, hk.1.1.1⟩⟩)⟩
   have n4_ : Aside0 ((((w20.setCell ⟨gb553, 0, none⟩ (.int .i64 t545)).setCell ⟨gb553, 1, none⟩ (.slice Ao24 t546.length co24)).setCell ⟨gb553, 2, none⟩ (.slice Ao25 t549.length co25)).heap[gb535]? = some (.cells #[.int .i64 0, .slice none 0 0, .slice none 0 0, .string (⟨#[]⟩ : ByteArray), .int .i64 0, .slice none 0 0, .slice none 0 0] 51 (0, 0))) := ⟨by refine kK_ ?_; refine blk_far ?_ NB535_553.out _; refine kK_ ?_; refine blk_far ?_ NB535_553.out _; refine kK_ ?_; refine blk_far ?_ NB535_553.out _; refine kK_ ?_; exact BK535.out⟩
   have n5_ : Aside0 ((((w20.setCell ⟨gb553, 0, none⟩ (.int .i64 t545)).setCell ⟨gb553, 1, none⟩ (.slice Ao24 t546.length co24)).setCell ⟨gb553, 2, none⟩ (.slice Ao25 t549.length co25)).heap[gb544]? = some (.cells #[.int .i64 t536, .slice Ao17 t537.length co17, .slice Ao18 t540.length co18] 42 (0, 0))) := ⟨by refine kK_ ?_; refine blk_far ?_ NB544_553.out _; refine kK_ ?_; refine blk_far ?_ NB544_553.out _; refine kK_ ?_; refine blk_far ?_ NB544_553.out _; refine kK_ ?_; exact BK544.out⟩
   have n6_ : Aside0 ((((w20.setCell ⟨gb553, 0, none⟩ (.int .i64 t545)).setCell ⟨gb553, 1, none⟩ (.slice Ao24 t546.length co24)).setCell ⟨gb553, 2, none⟩ (.slice Ao25 t549.length co25)).heap[gb553]? = some (.cells #[.int .i64 t545, .slice Ao24 t546.length co24, .slice Ao25 t549.length co25] 42 (0, 0))) := ⟨by refine kK_ ?_; refine blk_put (cs := #[.int .i64 t545, .slice Ao24 t546.length co24, .slice none 0 0]) ?_ 2 _ rfl; refine kK_ ?_; refine blk_put (cs := #[.int .i64 t545, .slice none 0 0, .slice none 0 0]) ?_ 1 _ rfl; refine kK_ ?_; refine blk_put (cs := #[.int .i64 0, .slice none 0 0, .slice none 0 0]) ?_ 0 _ rfl; refine kK_ ?_; exact BK553.out⟩
   have n7_ : Aside0 (Below w.heap.size w (((w20.setCell ⟨gb553, 0, none⟩ (.int .i64 t545)).setCell ⟨gb553, 1, none⟩ (.slice Ao24 t546.length co24)).setCell ⟨gb553, 2, none⟩ (.slice Ao25 t549.length co25))) := ⟨(u6_ GE535.out GE544.out GE553.out)⟩
   (try clear HO539)
   (try clear HO542)
   (try clear HO548)
   (try clear HO551)
   (try clear BK535)
   (try clear BK544)
   (try clear BK553)
   (try clear HB)
   generalize (((w20.setCell ⟨gb553, 0, none⟩ (.int .i64 t545)).setCell ⟨gb553, 1, none⟩ (.slice Ao24 t546.length co24)).setCell ⟨gb553, 2, none⟩ (.slice Ao25 t549.length co25)) = w26 at n0_ n1_ n2_ n3_ n4_ n5_ n6_ n7_ ⊢
   have HO539 := n0_
   have HO542 := n1_
   have HO548 := n2_
   have HO551 := n3_
   have BK535 := n4_
   have BK544 := n5_
   have BK553 := n6_
   have HB := n7_
   clear n0_ n1_ n2_ n3_ n4_ n5_ n6_ n7_
   have n0_ := Aside0.mk (Kd.R_drew HO539.out)
   have n1_ := Aside0.mk (Kd.R_drew HO542.out)
   have n2_ := Aside0.mk (Kd.R_drew HO548.out)
   have n3_ := Aside0.mk (Kd.R_drew HO551.out)
   have n4_ := Aside0.mk (blk_drew BK535.out)
   have n5_ := Aside0.mk (blk_drew BK544.out)
   have n6_ := Aside0.mk (blk_drew BK553.out)
   have n7_ := Aside0.mk (below_drew1 HB.out)
   clear HO539
   clear HO542
   clear HO548
   clear HO551
   clear BK535
   clear BK544
   clear BK553
   clear HB
   have HO539 := n0_
   have HO542 := n1_
   have HO548 := n2_
   have HO551 := n3_
   have BK535 := n4_
   have BK544 := n5_
   have BK553 := n6_
   have HB := n7_
   clear n0_ n1_ n2_ n3_ n4_ n5_ n6_ n7_
   refine start_ (n := 7) (S := fun w' => w'.cell? ⟨gb544, 0, none⟩ = some (.int .i64 t536) ∧ w'.cell? ⟨gb544, 1, none⟩ = some (.slice Ao17 t537.length co17) ∧ w'.cell? ⟨gb544, 2, none⟩ = some (.slice Ao18 t540.length co18) ∧ w'.cell? ⟨gb553, 0, none⟩ = some (.int .i64 t545) ∧ w'.cell? ⟨gb553, 1, none⟩ = some (.slice Ao24 t546.length co24) ∧ w'.cell? ⟨gb553, 2, none⟩ = some (.slice Ao25 t549.length co25)) (ds := []) (bb_ 7 0) (by kernel_rfl) rfl rfl ⟨(blk_cell BK544.out 0).trans rfl, (blk_cell BK544.out 1).trans rfl, (blk_cell BK544.out 2).trans rfl, (blk_cell BK553.out 0).trans rfl, (blk_cell BK553.out 1).trans rfl, (blk_cell BK553.out 2).trans rfl⟩ (fun hHeld => ?_)
   generalize w26.drew = w27 at HO539 HO542 HO548 HO551 BK535 BK544 BK553 HB hHeld ⊢
   refine pB_ 1 32 (bb_ 7 2) ?_
   refine pB_ 2 33 (bb_ 7 6) ?_
   refine tS_ 0 31 (bb_ 7 7) (by kernel_rfl) hHeld ?_
   refine tS_ 3 34 (bb_ 7 15) (by kernel_rfl) hHeld ?_
   refine pB_ 4 35 (bb_ 7 31) ?_
   refine one_ (i := 5) (N := none) (bb_ 7 63) rfl rfl (by kernel_rfl) (by decide) (fun K hK => ?_)
   have hs28 : w27.cell? ⟨gb535, 0, none⟩ = some (.int .i64 0) := (blk_cell BK535.out 0).trans rfl
   have hfs28 := blk_frozen BK535.out 0
   have hns28_1 := NB544_535.out
   have hns28_2 := NB553_535.out
   have hms28_1 := NB535_544.out
   have hms28_2 := NB535_553.out
   have hs29 : w27.cell? ⟨gb535, 1, none⟩ = some (.slice none 0 0) := (blk_cell BK535.out 1).trans rfl
   have hfs29 := blk_frozen BK535.out 1
   have hns29_1 := NB544_535.out
   have hns29_2 := NB553_535.out
   have hms29_1 := NB535_544.out
   have hms29_2 := NB535_553.out
   have hs30 : w27.cell? ⟨gb535, 2, none⟩ = some (.slice none 0 0) := (blk_cell BK535.out 2).trans rfl
   have hfs30 := blk_frozen BK535.out 2
   have hns30_1 := NB544_535.out
   have hns30_2 := NB553_535.out
   have hms30_1 := NB535_544.out
   have hms30_2 := NB535_553.out
   have hs31 : w27.cell? ⟨gb535, 3, none⟩ = some (.string (⟨#[]⟩ : ByteArray)) := (blk_cell BK535.out 3).trans rfl
   have hfs31 := blk_frozen BK535.out 3
   have hns31_1 := NB544_535.out
   have hns31_2 := NB553_535.out
   have hms31_1 := NB535_544.out
   have hms31_2 := NB535_553.out
   have hs32 : w27.cell? ⟨gb535, 4, none⟩ = some (.int .i64 0) := (blk_cell BK535.out 4).trans rfl
   have hfs32 := blk_frozen BK535.out 4
   have hns32_1 := NB544_535.out
   have hns32_2 := NB553_535.out
   have hms32_1 := NB535_544.out
   have hms32_2 := NB535_553.out
   have hs33 : w27.cell? ⟨gb535, 5, none⟩ = some (.slice none 0 0) := (blk_cell BK535.out 5).trans rfl
   have hfs33 := blk_frozen BK535.out 5
   have hns33_1 := NB544_535.out
   have hns33_2 := NB553_535.out
   have hms33_1 := NB535_544.out
   have hms33_2 := NB535_553.out
   have hs34 : w27.cell? ⟨gb535, 6, none⟩ = some (.slice none 0 0) := (blk_cell BK535.out 6).trans rfl
   have hfs34 := blk_frozen BK535.out 6
   have hns34_1 := NB544_535.out
   have hns34_2 := NB553_535.out
   have hms34_1 := NB535_544.out
   have hms34_2 := NB535_553.out
   refine skip_ (w1 := ?_) (by rfl) rfl ?_ ?_
   rotate_left
   ·go_simp
    rfl
   refine hK.out _ _ ⟨((cell_far (p := ⟨gb535, _, none⟩) NB544_535.out _).trans (((cell_far (p := ⟨gb535, _, none⟩) NB544_535.out _).trans (((cell_far (p := ⟨gb535, _, none⟩) NB544_535.out _).trans (((cell_far (p := ⟨gb535, _, none⟩) NB544_535.out _).trans (((cell_far (p := ⟨gb535, _, none⟩) NB544_535.out _).trans (((cell_far (p := ⟨gb535, _, none⟩) NB544_535.out _).trans (((cell_far (p := ⟨gb535, _, none⟩) NB544_535.out _).trans (hHeld.1)))))))))))))), ((cell_far (p := ⟨gb535, _, none⟩) NB544_535.out _).trans (((cell_far (p := ⟨gb535, _, none⟩) NB544_535.out _).trans (((cell_far (p := ⟨gb535, _, none⟩) NB544_535.out _).trans (((cell_far (p := ⟨gb535, _, none⟩) NB544_535.out _).trans (((cell_far (p := ⟨gb535, _, none⟩) NB544_535.out _).trans (((cell_far (p := ⟨gb535, _, none⟩) NB544_535.out _).trans (((cell_far (p := ⟨gb535, _, none⟩) NB544_535.out _).trans (hHeld.2.1)))))))))))))), ((cell_far (p := ⟨gb535, _, none⟩) NB544_535.out _).trans (((cell_far (p := ⟨gb535, _, none⟩) NB544_535.out _).trans (((cell_far (p := ⟨gb535, _, none⟩) NB544_535.out _).trans (((cell_far (p := ⟨gb535, _, none⟩) NB544_535.out _).trans (((cell_far (p := ⟨gb535, _, none⟩) NB544_535.out _).trans (((cell_far (p := ⟨gb535, _, none⟩) NB544_535.out _).trans (((cell_far (p := ⟨gb535, _, none⟩) NB544_535.out _).trans (hHeld.2.2.1)))))))))))))), ((cell_far (p := ⟨gb535, _, none⟩) NB553_535.out _).trans (((cell_far (p := ⟨gb535, _, none⟩) NB553_535.out _).trans (((cell_far (p := ⟨gb535, _, none⟩) NB553_535.out _).trans (((cell_far (p := ⟨gb535, _, none⟩) NB553_535.out _).trans (((cell_far (p := ⟨gb535, _, none⟩) NB553_535.out _).trans (((cell_far (p := ⟨gb535, _, none⟩) NB553_535.out _).trans (((cell_far (p := ⟨gb535, _, none⟩) NB553_535.out _).trans (hHeld.2.2.2.1)))))))))))))), ((cell_far (p := ⟨gb535, _, none⟩) NB553_535.out _).trans (((cell_far (p := ⟨gb535, _, none⟩) NB553_535.out _).trans (((cell_far (p := ⟨gb535, _, none⟩) NB553_535.out _).trans (((cell_far (p := ⟨gb535, _, none⟩) NB553_535.out _).trans (((cell_far (p := ⟨gb535, _, none⟩) NB553_535.out _).trans (((cell_far (p := ⟨gb535, _, none⟩) NB553_535.out _).trans (((cell_far (p := ⟨gb535, _, none⟩) NB553_535.out _).trans (hHeld.2.2.2.2.1)))))))))))))), ((cell_far (p := ⟨gb535, _, none⟩) NB553_535.out _).trans (((cell_far (p := ⟨gb535, _, none⟩) NB553_535.out _).trans (((cell_far (p := ⟨gb535, _, none⟩) NB553_535.out _).trans (((cell_far (p := ⟨gb535, _, none⟩) NB553_535.out _).trans (((cell_far (p := ⟨gb535, _, none⟩) NB553_535.out _).trans (((cell_far (p := ⟨gb535, _, none⟩) NB553_535.out _).trans (((cell_far (p := ⟨gb535, _, none⟩) NB553_535.out _).trans (hHeld.2.2.2.2.2))))))))))))))⟩ (fun hHeld => ?_)
   clear hK K
   refine pB_ 6 3 (bb_ 7 127) ?_
   refine done_ (by kernel_rfl) ?_
   try go_wp2
   refine bodyPost_ret (results_ct rfl _ _ gb535 51 #[.int .i64 t536, .slice Ao17 t537.length co17, .slice Ao18 t540.length co18, .string (a0.extract 49 53), .int .i64 t545, .slice Ao24 t546.length co24, .slice Ao25 t549.length co25] (0, 0) _ rfl (by refine kK_ ?_; refine blk_put (cs := #[.int .i64 t536, .slice Ao17 t537.length co17, .slice Ao18 t540.length co18, .string (a0.extract 49 53), .int .i64 t545, .slice Ao24 t546.length co24, .slice none 0 0]) ?_ 6 _ rfl; refine kK_ ?_; refine blk_put (cs := #[.int .i64 t536, .slice Ao17 t537.length co17, .slice Ao18 t540.length co18, .string (a0.extract 49 53), .int .i64 t545, .slice none 0 0, .slice none 0 0]) ?_ 5 _ rfl; refine kK_ ?_; refine blk_put (cs := #[.int .i64 t536, .slice Ao17 t537.length co17, .slice Ao18 t540.length co18, .string (a0.extract 49 53), .int .i64 0, .slice none 0 0, .slice none 0 0]) ?_ 4 _ rfl; refine kK_ ?_; refine blk_put (cs := #[.int .i64 t536, .slice Ao17 t537.length co17, .slice Ao18 t540.length co18, .string (⟨#[]⟩ : ByteArray), .int .i64 0, .slice none 0 0, .slice none 0 0]) ?_ 3 _ rfl; refine kK_ ?_; refine blk_put (cs := #[.int .i64 t536, .slice Ao17 t537.length co17, .slice none 0 0, .string (⟨#[]⟩ : ByteArray), .int .i64 0, .slice none 0 0, .slice none 0 0]) ?_ 2 _ rfl; refine kK_ ?_; refine blk_put (cs := #[.int .i64 t536, .slice none 0 0, .slice none 0 0, .string (⟨#[]⟩ : ByteArray), .int .i64 0, .slice none 0 0, .slice none 0 0]) ?_ 1 _ rfl; refine kK_ ?_; refine blk_put (cs := #[.int .i64 0, .slice none 0 0, .slice none 0 0, .string (⟨#[]⟩ : ByteArray), .int .i64 0, .slice none 0 0, .slice none 0 0]) ?_ 0 _ rfl; exact rK_ BK535.out) Tryd.underlying51 rfl (by kernel_rfl)) rfl ?_
   exact ⟨_, _, _, _, by first | rfl | (simp [errW_none, errW_some] <;> rfl) | (simp [*, errW_none, errW_some] <;> rfl), by refine kR_ ?_; exact Kd.R_mono (Kd.R_far (Kd.R_far (Kd.R_far (Kd.R_far (Kd.R_far (Kd.R_far (Kd.R_far (Kd.R_types HO539.out BK535.out (by decide)) (fun _ hk => hk.2) _) (fun _ hk => hk.2) _) (fun _ hk => hk.2) _) (fun _ hk => hk.2) _) (fun _ hk => hk.2) _) (fun _ hk => hk.2) _) (fun _ hk => hk.2) _) (fun _ hk => ⟨hk.1.1, ⟨hk.1.2.1, hk.1.2.2⟩⟩), by refine kR_ ?_; exact Kd.R_mono (Kd.R_far (Kd.R_far (Kd.R_far (Kd.R_far (Kd.R_far (Kd.R_far (Kd.R_far (Kd.R_types HO542.out BK535.out (by decide)) (fun _ hk => hk.2) _) (fun _ hk => hk.2) _) (fun _ hk => hk.2) _) (fun _ hk => hk.2) _) (fun _ hk => hk.2) _) (fun _ hk => hk.2) _) (fun _ hk => hk.2) _) (fun _ hk => ⟨hk.1.1, ⟨hk.1.2.1, hk.1.2.2⟩⟩), by refine kR_ ?_; exact Kd.R_mono (Kd.R_far (Kd.R_far (Kd.R_far (Kd.R_far (Kd.R_far (Kd.R_far (Kd.R_far (Kd.R_types HO548.out BK535.out (by decide)) (fun _ hk => hk.2) _) (fun _ hk => hk.2) _) (fun _ hk => hk.2) _) (fun _ hk => hk.2) _) (fun _ hk => hk.2) _) (fun _ hk => hk.2) _) (fun _ hk => hk.2) _) (fun _ hk => ⟨hk.1.1, ⟨hk.1.2.1, hk.1.2.2⟩⟩), by refine kR_ ?_; exact Kd.R_mono (Kd.R_far (Kd.R_far (Kd.R_far (Kd.R_far (Kd.R_far (Kd.R_far (Kd.R_far (Kd.R_types HO551.out BK535.out (by decide)) (fun _ hk => hk.2) _) (fun _ hk => hk.2) _) (fun _ hk => hk.2) _) (fun _ hk => hk.2) _) (fun _ hk => hk.2) _) (fun _ hk => hk.2) _) (fun _ hk => hk.2) _) (fun _ hk => ⟨hk.1.1, ⟨hk.1.2.1, hk.1.2.2⟩⟩), (u6_ GE535.out GE544.out GE553.out)⟩
  ·replace c9 := Bool.eq_false_iff.mpr c9
   subst c9
   have H1 : (some (0, ([] : List ByteArray), ([] : List ByteArray), (⟨#[]⟩ : ByteArray), 0, ([] : List ByteArray), ([] : List ByteArray), false)) = some (r1, r2, r3, r4, r5, r6, r7, r8) := by rw [if_neg (show ¬ (false = true) by decide)] at H; exact H
   clear H
   have H := H1
   clear H1
   simp only [Option.some.injEq, Prod.mk.injEq] at H
   obtain ⟨rfl, rfl, rfl, rfl, rfl, rfl, rfl, rfl⟩ := H
   go_enter Tryd.func59, Tryd.ntmps59
   go_wp2_with (first | ((with_reducible refine gate_dst (N := 2) rfl ?_); refine box_event ?hg (N := 2) ?hd (cs := #[.int .i64 0, .slice none 0 0, .slice none 0 0, .string (⟨#[]⟩ : ByteArray), .int .i64 0, .slice none 0 0, .slice none 0 0]) (t := 51) ?hr ?_; (case hd => rfl); (case hg => rfl); (case hr => first | (go_simp; done) | (go_simp; rfl)); intro gb535 hg w35 hbox hb; have n0_ := Aside0.mk (below_step (hB_) hb); have n1_ := Aside0.mk (hbox); have n2_ := Aside0.mk ((by rw [hg]; exact (below_size (hB_)) : w.heap.size ≤ gb535)); have n3_ := Aside0.mk ((by rw [hg]; exact (below_size (hB_)) : w.heap.size ≤ gb535)); replace HB := n0_; have BK535 := n1_; have GW535 := n2_; have GE535 := n3_; clear n0_ n1_ n2_ n3_; clear hb hbox hg) | ((with_reducible refine gate_callee (f := 46) rfl ?_); refine goesL_ (some 15) rfl rfl Tryd.func46 (by kernel_rfl) rfl #[.string (a0.extract 0 49)] rfl aM_ ?_; (with_reducible refine (impl_ReadSig.calls k (a0.extract 0 49) t536 t537 t540 true _ A5.out).mono ?_); rintro e w36 ⟨v538, v541, rfl, ho0, ho1, hb⟩; refine ⟨_, rfl, ?_⟩; have n0_ := Aside0.mk (Kd.R_lower ho0 (below_size (hS_ GE535.out))); have n1_ := Aside0.mk (Kd.R_lower ho1 (below_size (hS_ GE535.out))); have n2_ := Aside0.mk (blk_below (g := gb535) (o := .cells #[.int .i64 0, .slice none 0 0, .slice none 0 0, .string (⟨#[]⟩ : ByteArray), .int .i64 0, .slice none 0 0, .slice none 0 0] 51 (0, 0)) (rK_ BK535.out) hb); have n3_ := Aside0.mk (below_step (hS_ GE535.out) hb); have HO539 := n0_; have HO542 := n1_; replace BK535 := n2_; replace HB := n3_; clear n0_ n1_ n2_ n3_; (try clear hb); (try clear ho0); (try clear ho1)) | ((with_reducible refine gate_dst (N := 4) rfl ?_); refine box_event ?hg (N := 4) ?hd (cs := #[.int .i64 0, .slice none 0 0, .slice none 0 0]) (t := 42) ?hr ?_; (case hd => rfl); (case hg => rfl); (case hr => first | (go_simp; done) | (go_simp; rfl)); intro gb544 hg w37 hbox hb; have n0_ := Aside0.mk (Kd.R_below (rR_ HO539.out) hb); have n1_ := Aside0.mk (Kd.R_below (rR_ HO542.out) hb); have n2_ := Aside0.mk (blk_below (g := gb535) (o := .cells #[.int .i64 0, .slice none 0 0, .slice none 0 0, .string (⟨#[]⟩ : ByteArray), .int .i64 0, .slice none 0 0, .slice none 0 0] 51 (0, 0)) (rK_ BK535.out) hb); have n3_ := Aside0.mk (below_step (hS_ GE535.out) hb); have n4_ := Aside0.mk (hbox); have n5_ := Aside0.mk ((by rw [hg]; exact (below_size (hS_ GE535.out)) : w.heap.size ≤ gb544)); have n6_ := Aside0.mk ((by rw [hg]; exact (below_size (hS_ GE535.out)) : w.heap.size ≤ gb544)); have n7_ := Aside0.mk ((by rw [hg]; exact Nat.ne_of_lt (blk_lt (g := gb535) (o := .cells #[.int .i64 0, .slice none 0 0, .slice none 0 0, .string (⟨#[]⟩ : ByteArray), .int .i64 0, .slice none 0 0, .slice none 0 0] 51 (0, 0)) (rK_ BK535.out)) : gb535 ≠ gb544)); have n8_ := Aside0.mk ((by rw [hg]; exact Nat.ne_of_gt (blk_lt (g := gb535) (o := .cells #[.int .i64 0, .slice none 0 0, .slice none 0 0, .string (⟨#[]⟩ : ByteArray), .int .i64 0, .slice none 0 0, .slice none 0 0] 51 (0, 0)) (rK_ BK535.out)) : gb544 ≠ gb535)); replace HO539 := n0_; replace HO542 := n1_; replace BK535 := n2_; replace HB := n3_; have BK544 := n4_; have GW544 := n5_; have GE544 := n6_; have NB535_544 := n7_; have NB544_535 := n8_; clear n0_ n1_ n2_ n3_ n4_ n5_ n6_ n7_ n8_; clear hb hbox hg; have hnb38 := NB544_535.out; have hnc38 := NB535_544.out; have hcz39_0 : w37.cell? ⟨gb544, 0, none⟩ = some (.int .i64 0) := (blk_cell BK544.out 0).trans rfl; have hcz39_1 : w37.cell? ⟨gb544, 1, none⟩ = some (.slice none 0 0) := (blk_cell BK544.out 1).trans rfl; have hcz39_2 : w37.cell? ⟨gb544, 2, none⟩ = some (.slice none 0 0) := (blk_cell BK544.out 2).trans rfl; have hfz39_0 := blk_frozen BK544.out 0; have hfz39_1 := blk_frozen BK544.out 1; have hfz39_2 := blk_frozen BK544.out 2; obtain ⟨Ao40, co40, eo40⟩ := Kd.R_slice HO539.out; subst eo40; obtain ⟨Ao41, co41, eo41⟩ := Kd.R_slice HO542.out; subst eo41) | ((with_reducible refine gate_callee (f := 46) rfl ?_); refine goesL_ (some 21) rfl rfl Tryd.func46 (by kernel_rfl) rfl #[.string (a0.extract 53 a0.size)] rfl aM_ ?_; (with_reducible refine (impl_ReadSig.calls k (a0.extract 53 a0.size) t545 t546 t549 false _ A7.out).mono ?_); rintro e w42 ⟨v547, v550, rfl, ho0, ho1, hb⟩; refine ⟨_, rfl, ?_⟩; have n0_ := Aside0.mk (Kd.R_mono (Kd.R_told (Kd.R_told (Kd.R_old (by refine kR_ ?_; exact (Kd.R_mono (Kd.R_far (Kd.R_far (Kd.R_far (Kd.R_types HO539.out BK544.out (by decide)) (fun _ hk => hk.2) _) (fun _ hk => hk.2) _) (fun _ hk => hk.2) _) (fun _ h_ => h_.1))) hb) (Kd.R_base ho0)) (Kd.R_base ho1)) (fun _ h_ => h_.1)); have n1_ := Aside0.mk (Kd.R_mono (Kd.R_told (Kd.R_told (Kd.R_old (by refine kR_ ?_; exact (Kd.R_mono (Kd.R_far (Kd.R_far (Kd.R_far (Kd.R_types HO542.out BK544.out (by decide)) (fun _ hk => hk.2) _) (fun _ hk => hk.2) _) (fun _ hk => hk.2) _) (fun _ h_ => h_.1))) hb) (Kd.R_base ho0)) (Kd.R_base ho1)) (fun _ h_ => h_.1)); have n2_ := Aside0.mk (Kd.R_lower (Kd.R_new' (Kd.R_new' ho0 (Kd.R_lt (by refine kR_ ?_; exact (Kd.R_mono (Kd.R_far (Kd.R_far (Kd.R_far (Kd.R_types HO539.out BK544.out (by decide)) (fun _ hk => hk.2) _) (fun _ hk => hk.2) _) (fun _ hk => hk.2) _) (fun _ h_ => h_.1))))) (Kd.R_lt (by refine kR_ ?_; exact (Kd.R_mono (Kd.R_far (Kd.R_far (Kd.R_far (Kd.R_types HO542.out BK544.out (by decide)) (fun _ hk => hk.2) _) (fun _ hk => hk.2) _) (fun _ hk => hk.2) _) (fun _ h_ => h_.1))))) (below_size ((u0_ GE535.out GE544.out)))); have n3_ := Aside0.mk (Kd.R_lower (Kd.R_new' (Kd.R_new' ho1 (Kd.R_lt (by refine kR_ ?_; exact (Kd.R_mono (Kd.R_far (Kd.R_far (Kd.R_far (Kd.R_types HO539.out BK544.out (by decide)) (fun _ hk => hk.2) _) (fun _ hk => hk.2) _) (fun _ hk => hk.2) _) (fun _ h_ => h_.1))))) (Kd.R_lt (by refine kR_ ?_; exact (Kd.R_mono (Kd.R_far (Kd.R_far (Kd.R_far (Kd.R_types HO542.out BK544.out (by decide)) (fun _ hk => hk.2) _) (fun _ hk => hk.2) _) (fun _ hk => hk.2) _) (fun _ h_ => h_.1))))) (below_size ((u0_ GE535.out GE544.out)))); have n4_ := Aside0.mk (blk_below (g := gb535) (o := .cells #[.int .i64 0, .slice none 0 0, .slice none 0 0, .string (⟨#[]⟩ : ByteArray), .int .i64 0, .slice none 0 0, .slice none 0 0] 51 (0, 0)) (by refine kK_ ?_; refine blk_far ?_ NB535_544.out _; refine kK_ ?_; refine blk_far ?_ NB535_544.out _; refine kK_ ?_; refine blk_far ?_ NB535_544.out _; exact rK_ BK535.out) hb); have n5_ := Aside0.mk (blk_below (g := gb544) (o := .cells #[.int .i64 t536, .slice Ao40 t537.length co40, .slice Ao41 t540.length co41] 42 (0, 0)) (by refine kK_ ?_; refine blk_put (cs := #[.int .i64 t536, .slice Ao40 t537.length co40, .slice none 0 0]) ?_ 2 _ rfl; refine kK_ ?_; refine blk_put (cs := #[.int .i64 t536, .slice none 0 0, .slice none 0 0]) ?_ 1 _ rfl; refine kK_ ?_; refine blk_put (cs := #[.int .i64 0, .slice none 0 0, .slice none 0 0]) ?_ 0 _ rfl; exact rK_ BK544.out) hb); have n6_ := Aside0.mk (below_step ((u0_ GE535.out GE544.out)) hb); replace HO539 := n0_; replace HO542 := n1_; have HO548 := n2_; have HO551 := n3_; replace BK535 := n4_; replace BK544 := n5_; replace HB := n6_; clear n0_ n1_ n2_ n3_ n4_ n5_ n6_; (try clear hb); (try clear ho0); (try clear ho1)) | ((with_reducible refine gate_dst (N := 6) rfl ?_); refine box_event ?hg (N := 6) ?hd (cs := #[.int .i64 0, .slice none 0 0, .slice none 0 0]) (t := 42) ?hr ?_; (case hd => rfl); (case hg => rfl); (case hr => first | (go_simp; done) | (go_simp; rfl)); intro gb553 hg w43 hbox hb; have n0_ := Aside0.mk (Kd.R_below (rR_ HO539.out) hb); have n1_ := Aside0.mk (Kd.R_below (rR_ HO542.out) hb); have n2_ := Aside0.mk (Kd.R_below (rR_ HO548.out) hb); have n3_ := Aside0.mk (Kd.R_below (rR_ HO551.out) hb); have n4_ := Aside0.mk (blk_below (g := gb535) (o := .cells #[.int .i64 0, .slice none 0 0, .slice none 0 0, .string (⟨#[]⟩ : ByteArray), .int .i64 0, .slice none 0 0, .slice none 0 0] 51 (0, 0)) (rK_ BK535.out) hb); have n5_ := Aside0.mk (blk_below (g := gb544) (o := .cells #[.int .i64 t536, .slice Ao40 t537.length co40, .slice Ao41 t540.length co41] 42 (0, 0)) (rK_ BK544.out) hb); have n6_ := Aside0.mk (below_step ((u0_ GE535.out GE544.out)) hb); have n7_ := Aside0.mk (hbox); have n8_ := Aside0.mk ((by rw [hg]; exact (below_size ((u0_ GE535.out GE544.out))) : w.heap.size ≤ gb553)); have n9_ := Aside0.mk ((by rw [hg]; exact (below_size ((u0_ GE535.out GE544.out))) : w.heap.size ≤ gb553)); have n10_ := Aside0.mk ((by rw [hg]; exact Nat.ne_of_lt (blk_lt (g := gb535) (o := .cells #[.int .i64 0, .slice none 0 0, .slice none 0 0, .string (⟨#[]⟩ : ByteArray), .int .i64 0, .slice none 0 0, .slice none 0 0] 51 (0, 0)) (rK_ BK535.out)) : gb535 ≠ gb553)); have n11_ := Aside0.mk ((by rw [hg]; exact Nat.ne_of_gt (blk_lt (g := gb535) (o := .cells #[.int .i64 0, .slice none 0 0, .slice none 0 0, .string (⟨#[]⟩ : ByteArray), .int .i64 0, .slice none 0 0, .slice none 0 0] 51 (0, 0)) (rK_ BK535.out)) : gb553 ≠ gb535)); have n12_ := Aside0.mk ((by rw [hg]; exact Nat.ne_of_lt (blk_lt (g := gb544) (o := .cells #[.int .i64 t536, .slice Ao40 t537.length co40, .slice Ao41 t540.length co41] 42 (0, 0)) (rK_ BK544.out)) : gb544 ≠ gb553)); have n13_ := Aside0.mk ((by rw [hg]; exact Nat.ne_of_gt (blk_lt (g := gb544) (o := .cells #[.int .i64 t536, .slice Ao40 t537.length co40, .slice Ao41 t540.length co41] 42 (0, 0)) (rK_ BK544.out)) : gb553 ≠ gb544)); replace HO539 := n0_; replace HO542 := n1_; replace HO548 := n2_; replace HO551 := n3_; replace BK535 := n4_; replace BK544 := n5_; replace HB := n6_; have BK553 := n7_; have GW553 := n8_; have GE553 := n9_; have NB535_553 := n10_; have NB553_535 := n11_; have NB544_553 := n12_; have NB553_544 := n13_; clear n0_ n1_ n2_ n3_ n4_ n5_ n6_ n7_ n8_ n9_ n10_ n11_ n12_ n13_; clear hb hbox hg; have hnb44 := NB553_535.out; have hnc44 := NB535_553.out; have hnb45 := NB553_544.out; have hnc45 := NB544_553.out; have hcz46_0 : w43.cell? ⟨gb553, 0, none⟩ = some (.int .i64 0) := (blk_cell BK553.out 0).trans rfl; have hcz46_1 : w43.cell? ⟨gb553, 1, none⟩ = some (.slice none 0 0) := (blk_cell BK553.out 1).trans rfl; have hcz46_2 : w43.cell? ⟨gb553, 2, none⟩ = some (.slice none 0 0) := (blk_cell BK553.out 2).trans rfl; have hfz46_0 := blk_frozen BK553.out 0; have hfz46_1 := blk_frozen BK553.out 1; have hfz46_2 := blk_frozen BK553.out 2; obtain ⟨Ao47, co47, eo47⟩ := Kd.R_slice HO548.out; subst eo47; obtain ⟨Ao48, co48, eo48⟩ := Kd.R_slice HO551.out; subst eo48; have hcz49_0 : w43.cell? ⟨gb535, 0, none⟩ = some (.int .i64 0) := (blk_cell BK535.out 0).trans rfl; have hcz49_1 : w43.cell? ⟨gb535, 1, none⟩ = some (.slice none 0 0) := (blk_cell BK535.out 1).trans rfl; have hcz49_2 : w43.cell? ⟨gb535, 2, none⟩ = some (.slice none 0 0) := (blk_cell BK535.out 2).trans rfl; have hcz49_3 : w43.cell? ⟨gb535, 3, none⟩ = some (.string (⟨#[]⟩ : ByteArray)) := (blk_cell BK535.out 3).trans rfl; have hcz49_4 : w43.cell? ⟨gb535, 4, none⟩ = some (.int .i64 0) := (blk_cell BK535.out 4).trans rfl; have hcz49_5 : w43.cell? ⟨gb535, 5, none⟩ = some (.slice none 0 0) := (blk_cell BK535.out 5).trans rfl; have hcz49_6 : w43.cell? ⟨gb535, 6, none⟩ = some (.slice none 0 0) := (blk_cell BK535.out 6).trans rfl; have hfz49_0 := blk_frozen BK535.out 0; have hfz49_1 := blk_frozen BK535.out 1; have hfz49_2 := blk_frozen BK535.out 2; have hfz49_3 := blk_frozen BK535.out 3; have hfz49_4 := blk_frozen BK535.out 4; have hfz49_5 := blk_frozen BK535.out 5; have hfz49_6 := blk_frozen BK535.out 6))
   refine bodyPost_ret (results_ct rfl _ _ gb535 51 #[.int .i64 0, .slice none 0 0, .slice none 0 0, .string (⟨#[]⟩ : ByteArray), .int .i64 0, .slice none 0 0, .slice none 0 0] (0, 0) _ rfl (by refine kK_ ?_; refine blk_put (cs := #[.int .i64 0, .slice none 0 0, .slice none 0 0, .string (⟨#[]⟩ : ByteArray), .int .i64 0, .slice none 0 0, .slice none 0 0]) ?_ 6 _ rfl; refine kK_ ?_; refine blk_put (cs := #[.int .i64 0, .slice none 0 0, .slice none 0 0, .string (⟨#[]⟩ : ByteArray), .int .i64 0, .slice none 0 0, .slice none 0 0]) ?_ 5 _ rfl; refine kK_ ?_; refine blk_put (cs := #[.int .i64 0, .slice none 0 0, .slice none 0 0, .string (⟨#[]⟩ : ByteArray), .int .i64 0, .slice none 0 0, .slice none 0 0]) ?_ 4 _ rfl; refine kK_ ?_; refine blk_put (cs := #[.int .i64 0, .slice none 0 0, .slice none 0 0, .string (⟨#[]⟩ : ByteArray), .int .i64 0, .slice none 0 0, .slice none 0 0]) ?_ 3 _ rfl; refine kK_ ?_; refine blk_put (cs := #[.int .i64 0, .slice none 0 0, .slice none 0 0, .string (⟨#[]⟩ : ByteArray), .int .i64 0, .slice none 0 0, .slice none 0 0]) ?_ 2 _ rfl; refine kK_ ?_; refine blk_put (cs := #[.int .i64 0, .slice none 0 0, .slice none 0 0, .string (⟨#[]⟩ : ByteArray), .int .i64 0, .slice none 0 0, .slice none 0 0]) ?_ 1 _ rfl; refine kK_ ?_; refine blk_put (cs := #[.int .i64 0, .slice none 0 0, .slice none 0 0, .string (⟨#[]⟩ : ByteArray), .int .i64 0, .slice none 0 0, .slice none 0 0]) ?_ 0 _ rfl; refine kK_ ?_; refine blk_far ?_ NB535_553.out _; refine kK_ ?_; refine blk_far ?_ NB535_553.out _; refine kK_ ?_; refine blk_far ?_ NB535_553.out _; exact rK_ BK535.out) Tryd.underlying51 rfl (by kernel_rfl)) rfl ?_
   exact ⟨_, _, _, _, by first | rfl | (simp [errW_none, errW_some] <;> rfl) | (simp [*, errW_none, errW_some] <;> rfl), by first | exact Kd.R_nil _ _ _ _ _ | exact Kd.N_nil _ _ _ _ _ | exact Kd.V_nil _ _ _ _ _ | exact Kd.Q_nil _ _ _ _ _ | exact Kd.S_nil _ _ _ _ _, by first | exact Kd.R_nil _ _ _ _ _ | exact Kd.N_nil _ _ _ _ _ | exact Kd.V_nil _ _ _ _ _ | exact Kd.Q_nil _ _ _ _ _ | exact Kd.S_nil _ _ _ _ _, by first | exact Kd.R_nil _ _ _ _ _ | exact Kd.N_nil _ _ _ _ _ | exact Kd.V_nil _ _ _ _ _ | exact Kd.Q_nil _ _ _ _ _ | exact Kd.S_nil _ _ _ _ _, by first | exact Kd.R_nil _ _ _ _ _ | exact Kd.N_nil _ _ _ _ _ | exact Kd.V_nil _ _ _ _ _ | exact Kd.Q_nil _ _ _ _ _ | exact Kd.S_nil _ _ _ _ _, (u6_ GE535.out GE544.out GE553.out)⟩
 ·replace c8 := Bool.eq_false_iff.mpr c8
  subst c8
  have H1 : (some (0, ([] : List ByteArray), ([] : List ByteArray), (⟨#[]⟩ : ByteArray), 0, ([] : List ByteArray), ([] : List ByteArray), false)) = some (r1, r2, r3, r4, r5, r6, r7, r8) := by rw [if_neg (show ¬ (false = true) by decide)] at H; exact H
  clear H
  have H := H1
  clear H1
  simp only [Option.some.injEq, Prod.mk.injEq] at H
  obtain ⟨rfl, rfl, rfl, rfl, rfl, rfl, rfl, rfl⟩ := H
  go_enter Tryd.func59, Tryd.ntmps59
  go_wp2_with (first | ((with_reducible refine gate_dst (N := 2) rfl ?_); refine box_event ?hg (N := 2) ?hd (cs := #[.int .i64 0, .slice none 0 0, .slice none 0 0, .string (⟨#[]⟩ : ByteArray), .int .i64 0, .slice none 0 0, .slice none 0 0]) (t := 51) ?hr ?_; (case hd => rfl); (case hg => rfl); (case hr => first | (go_simp; done) | (go_simp; rfl)); intro gb535 hg w50 hbox hb; have n0_ := Aside0.mk (below_step (hB_) hb); have n1_ := Aside0.mk (hbox); have n2_ := Aside0.mk ((by rw [hg]; exact (below_size (hB_)) : w.heap.size ≤ gb535)); have n3_ := Aside0.mk ((by rw [hg]; exact (below_size (hB_)) : w.heap.size ≤ gb535)); replace HB := n0_; have BK535 := n1_; have GW535 := n2_; have GE535 := n3_; clear n0_ n1_ n2_ n3_; clear hb hbox hg) | ((with_reducible refine gate_callee (f := 46) rfl ?_); refine goesL_ (some 15) rfl rfl Tryd.func46 (by kernel_rfl) rfl #[.string (a0.extract 0 49)] rfl aM_ ?_; (with_reducible refine (impl_ReadSig.calls k (a0.extract 0 49) t536 t537 t540 false _ A5.out).mono ?_); rintro e w51 ⟨v538, v541, rfl, ho0, ho1, hb⟩; refine ⟨_, rfl, ?_⟩; have n0_ := Aside0.mk (Kd.R_lower ho0 (below_size (hS_ GE535.out))); have n1_ := Aside0.mk (Kd.R_lower ho1 (below_size (hS_ GE535.out))); have n2_ := Aside0.mk (blk_below (g := gb535) (o := .cells #[.int .i64 0, .slice none 0 0, .slice none 0 0, .string (⟨#[]⟩ : ByteArray), .int .i64 0, .slice none 0 0, .slice none 0 0] 51 (0, 0)) (rK_ BK535.out) hb); have n3_ := Aside0.mk (below_step (hS_ GE535.out) hb); have HO539 := n0_; have HO542 := n1_; replace BK535 := n2_; replace HB := n3_; clear n0_ n1_ n2_ n3_; (try clear hb); (try clear ho0); (try clear ho1)) | ((with_reducible refine gate_dst (N := 4) rfl ?_); refine box_event ?hg (N := 4) ?hd (cs := #[.int .i64 0, .slice none 0 0, .slice none 0 0]) (t := 42) ?hr ?_; (case hd => rfl); (case hg => rfl); (case hr => first | (go_simp; done) | (go_simp; rfl)); intro gb544 hg w52 hbox hb; have n0_ := Aside0.mk (Kd.R_below (rR_ HO539.out) hb); have n1_ := Aside0.mk (Kd.R_below (rR_ HO542.out) hb); have n2_ := Aside0.mk (blk_below (g := gb535) (o := .cells #[.int .i64 0, .slice none 0 0, .slice none 0 0, .string (⟨#[]⟩ : ByteArray), .int .i64 0, .slice none 0 0, .slice none 0 0] 51 (0, 0)) (rK_ BK535.out) hb); have n3_ := Aside0.mk (below_step (hS_ GE535.out) hb); have n4_ := Aside0.mk (hbox); have n5_ := Aside0.mk ((by rw [hg]; exact (below_size (hS_ GE535.out)) : w.heap.size ≤ gb544)); have n6_ := Aside0.mk ((by rw [hg]; exact (below_size (hS_ GE535.out)) : w.heap.size ≤ gb544)); have n7_ := Aside0.mk ((by rw [hg]; exact Nat.ne_of_lt (blk_lt (g := gb535) (o := .cells #[.int .i64 0, .slice none 0 0, .slice none 0 0, .string (⟨#[]⟩ : ByteArray), .int .i64 0, .slice none 0 0, .slice none 0 0] 51 (0, 0)) (rK_ BK535.out)) : gb535 ≠ gb544)); have n8_ := Aside0.mk ((by rw [hg]; exact Nat.ne_of_gt (blk_lt (g := gb535) (o := .cells #[.int .i64 0, .slice none 0 0, .slice none 0 0, .string (⟨#[]⟩ : ByteArray), .int .i64 0, .slice none 0 0, .slice none 0 0] 51 (0, 0)) (rK_ BK535.out)) : gb544 ≠ gb535)); replace HO539 := n0_; replace HO542 := n1_; replace BK535 := n2_; replace HB := n3_; have BK544 := n4_; have GW544 := n5_; have GE544 := n6_; have NB535_544 := n7_; have NB544_535 := n8_; clear n0_ n1_ n2_ n3_ n4_ n5_ n6_ n7_ n8_; clear hb hbox hg; have hnb53 := NB544_535.out; have hnc53 := NB535_544.out; have hcz54_0 : w52.cell? ⟨gb544, 0, none⟩ = some (.int .i64 0) := (blk_cell BK544.out 0).trans rfl; have hcz54_1 : w52.cell? ⟨gb544, 1, none⟩ = some (.slice none 0 0) := (blk_cell BK544.out 1).trans rfl; have hcz54_2 : w52.cell? ⟨gb544, 2, none⟩ = some (.slice none 0 0) := (blk_cell BK544.out 2).trans rfl; have hfz54_0 := blk_frozen BK544.out 0; have hfz54_1 := blk_frozen BK544.out 1; have hfz54_2 := blk_frozen BK544.out 2; obtain ⟨Ao55, co55, eo55⟩ := Kd.R_slice HO539.out; subst eo55; obtain ⟨Ao56, co56, eo56⟩ := Kd.R_slice HO542.out; subst eo56) | ((with_reducible refine gate_callee (f := 46) rfl ?_); refine goesL_ (some 21) rfl rfl Tryd.func46 (by kernel_rfl) rfl #[.string (a0.extract 53 a0.size)] rfl aM_ ?_; (with_reducible refine (impl_ReadSig.calls k (a0.extract 53 a0.size) t545 t546 t549 t552 _ A7.out).mono ?_); rintro e w57 ⟨v547, v550, rfl, ho0, ho1, hb⟩; refine ⟨_, rfl, ?_⟩; have n0_ := Aside0.mk (Kd.R_mono (Kd.R_told (Kd.R_told (Kd.R_old (by refine kR_ ?_; exact (Kd.R_mono (Kd.R_far (Kd.R_far (Kd.R_far (Kd.R_types HO539.out BK544.out (by decide)) (fun _ hk => hk.2) _) (fun _ hk => hk.2) _) (fun _ hk => hk.2) _) (fun _ h_ => h_.1))) hb) (Kd.R_base ho0)) (Kd.R_base ho1)) (fun _ h_ => h_.1)); have n1_ := Aside0.mk (Kd.R_mono (Kd.R_told (Kd.R_told (Kd.R_old (by refine kR_ ?_; exact (Kd.R_mono (Kd.R_far (Kd.R_far (Kd.R_far (Kd.R_types HO542.out BK544.out (by decide)) (fun _ hk => hk.2) _) (fun _ hk => hk.2) _) (fun _ hk => hk.2) _) (fun _ h_ => h_.1))) hb) (Kd.R_base ho0)) (Kd.R_base ho1)) (fun _ h_ => h_.1)); have n2_ := Aside0.mk (Kd.R_lower (Kd.R_new' (Kd.R_new' ho0 (Kd.R_lt (by refine kR_ ?_; exact (Kd.R_mono (Kd.R_far (Kd.R_far (Kd.R_far (Kd.R_types HO539.out BK544.out (by decide)) (fun _ hk => hk.2) _) (fun _ hk => hk.2) _) (fun _ hk => hk.2) _) (fun _ h_ => h_.1))))) (Kd.R_lt (by refine kR_ ?_; exact (Kd.R_mono (Kd.R_far (Kd.R_far (Kd.R_far (Kd.R_types HO542.out BK544.out (by decide)) (fun _ hk => hk.2) _) (fun _ hk => hk.2) _) (fun _ hk => hk.2) _) (fun _ h_ => h_.1))))) (below_size ((u0_ GE535.out GE544.out)))); have n3_ := Aside0.mk (Kd.R_lower (Kd.R_new' (Kd.R_new' ho1 (Kd.R_lt (by refine kR_ ?_; exact (Kd.R_mono (Kd.R_far (Kd.R_far (Kd.R_far (Kd.R_types HO539.out BK544.out (by decide)) (fun _ hk => hk.2) _) (fun _ hk => hk.2) _) (fun _ hk => hk.2) _) (fun _ h_ => h_.1))))) (Kd.R_lt (by refine kR_ ?_; exact (Kd.R_mono (Kd.R_far (Kd.R_far (Kd.R_far (Kd.R_types HO542.out BK544.out (by decide)) (fun _ hk => hk.2) _) (fun _ hk => hk.2) _) (fun _ hk => hk.2) _) (fun _ h_ => h_.1))))) (below_size ((u0_ GE535.out GE544.out)))); have n4_ := Aside0.mk (blk_below (g := gb535) (o := .cells #[.int .i64 0, .slice none 0 0, .slice none 0 0, .string (⟨#[]⟩ : ByteArray), .int .i64 0, .slice none 0 0, .slice none 0 0] 51 (0, 0)) (by refine kK_ ?_; refine blk_far ?_ NB535_544.out _; refine kK_ ?_; refine blk_far ?_ NB535_544.out _; refine kK_ ?_; refine blk_far ?_ NB535_544.out _; exact rK_ BK535.out) hb); have n5_ := Aside0.mk (blk_below (g := gb544) (o := .cells #[.int .i64 t536, .slice Ao55 t537.length co55, .slice Ao56 t540.length co56] 42 (0, 0)) (by refine kK_ ?_; refine blk_put (cs := #[.int .i64 t536, .slice Ao55 t537.length co55, .slice none 0 0]) ?_ 2 _ rfl; refine kK_ ?_; refine blk_put (cs := #[.int .i64 t536, .slice none 0 0, .slice none 0 0]) ?_ 1 _ rfl; refine kK_ ?_; refine blk_put (cs := #[.int .i64 0, .slice none 0 0, .slice none 0 0]) ?_ 0 _ rfl; exact rK_ BK544.out) hb); have n6_ := Aside0.mk (below_step ((u0_ GE535.out GE544.out)) hb); replace HO539 := n0_; replace HO542 := n1_; have HO548 := n2_; have HO551 := n3_; replace BK535 := n4_; replace BK544 := n5_; replace HB := n6_; clear n0_ n1_ n2_ n3_ n4_ n5_ n6_; (try clear hb); (try clear ho0); (try clear ho1)) | ((with_reducible refine gate_dst (N := 6) rfl ?_); refine box_event ?hg (N := 6) ?hd (cs := #[.int .i64 0, .slice none 0 0, .slice none 0 0]) (t := 42) ?hr ?_; (case hd => rfl); (case hg => rfl); (case hr => first | (go_simp; done) | (go_simp; rfl)); intro gb553 hg w58 hbox hb; have n0_ := Aside0.mk (Kd.R_below (rR_ HO539.out) hb); have n1_ := Aside0.mk (Kd.R_below (rR_ HO542.out) hb); have n2_ := Aside0.mk (Kd.R_below (rR_ HO548.out) hb); have n3_ := Aside0.mk (Kd.R_below (rR_ HO551.out) hb); have n4_ := Aside0.mk (blk_below (g := gb535) (o := .cells #[.int .i64 0, .slice none 0 0, .slice none 0 0, .string (⟨#[]⟩ : ByteArray), .int .i64 0, .slice none 0 0, .slice none 0 0] 51 (0, 0)) (rK_ BK535.out) hb); have n5_ := Aside0.mk (blk_below (g := gb544) (o := .cells #[.int .i64 t536, .slice Ao55 t537.length co55, .slice Ao56 t540.length co56] 42 (0, 0)) (rK_ BK544.out) hb); have n6_ := Aside0.mk (below_step ((u0_ GE535.out GE544.out)) hb); have n7_ := Aside0.mk (hbox); have n8_ := Aside0.mk ((by rw [hg]; exact (below_size ((u0_ GE535.out GE544.out))) : w.heap.size ≤ gb553)); have n9_ := Aside0.mk ((by rw [hg]; exact (below_size ((u0_ GE535.out GE544.out))) : w.heap.size ≤ gb553)); have n10_ := Aside0.mk ((by rw [hg]; exact Nat.ne_of_lt (blk_lt (g := gb535) (o := .cells #[.int .i64 0, .slice none 0 0, .slice none 0 0, .string (⟨#[]⟩ : ByteArray), .int .i64 0, .slice none 0 0, .slice none 0 0] 51 (0, 0)) (rK_ BK535.out)) : gb535 ≠ gb553)); have n11_ := Aside0.mk ((by rw [hg]; exact Nat.ne_of_gt (blk_lt (g := gb535) (o := .cells #[.int .i64 0, .slice none 0 0, .slice none 0 0, .string (⟨#[]⟩ : ByteArray), .int .i64 0, .slice none 0 0, .slice none 0 0] 51 (0, 0)) (rK_ BK535.out)) : gb553 ≠ gb535)); have n12_ := Aside0.mk ((by rw [hg]; exact Nat.ne_of_lt (blk_lt (g := gb544) (o := .cells #[.int .i64 t536, .slice Ao55 t537.length co55, .slice Ao56 t540.length co56] 42 (0, 0)) (rK_ BK544.out)) : gb544 ≠ gb553)); have n13_ := Aside0.mk ((by rw [hg]; exact Nat.ne_of_gt (blk_lt (g := gb544) (o := .cells #[.int .i64 t536, .slice Ao55 t537.length co55, .slice Ao56 t540.length co56] 42 (0, 0)) (rK_ BK544.out)) : gb553 ≠ gb544)); replace HO539 := n0_; replace HO542 := n1_; replace HO548 := n2_; replace HO551 := n3_; replace BK535 := n4_; replace BK544 := n5_; replace HB := n6_; have BK553 := n7_; have GW553 := n8_; have GE553 := n9_; have NB535_553 := n10_; have NB553_535 := n11_; have NB544_553 := n12_; have NB553_544 := n13_; clear n0_ n1_ n2_ n3_ n4_ n5_ n6_ n7_ n8_ n9_ n10_ n11_ n12_ n13_; clear hb hbox hg; have hnb59 := NB553_535.out; have hnc59 := NB535_553.out; have hnb60 := NB553_544.out; have hnc60 := NB544_553.out; have hcz61_0 : w58.cell? ⟨gb553, 0, none⟩ = some (.int .i64 0) := (blk_cell BK553.out 0).trans rfl; have hcz61_1 : w58.cell? ⟨gb553, 1, none⟩ = some (.slice none 0 0) := (blk_cell BK553.out 1).trans rfl; have hcz61_2 : w58.cell? ⟨gb553, 2, none⟩ = some (.slice none 0 0) := (blk_cell BK553.out 2).trans rfl; have hfz61_0 := blk_frozen BK553.out 0; have hfz61_1 := blk_frozen BK553.out 1; have hfz61_2 := blk_frozen BK553.out 2; obtain ⟨Ao62, co62, eo62⟩ := Kd.R_slice HO548.out; subst eo62; obtain ⟨Ao63, co63, eo63⟩ := Kd.R_slice HO551.out; subst eo63; have hcz64_0 : w58.cell? ⟨gb535, 0, none⟩ = some (.int .i64 0) := (blk_cell BK535.out 0).trans rfl; have hcz64_1 : w58.cell? ⟨gb535, 1, none⟩ = some (.slice none 0 0) := (blk_cell BK535.out 1).trans rfl; have hcz64_2 : w58.cell? ⟨gb535, 2, none⟩ = some (.slice none 0 0) := (blk_cell BK535.out 2).trans rfl; have hcz64_3 : w58.cell? ⟨gb535, 3, none⟩ = some (.string (⟨#[]⟩ : ByteArray)) := (blk_cell BK535.out 3).trans rfl; have hcz64_4 : w58.cell? ⟨gb535, 4, none⟩ = some (.int .i64 0) := (blk_cell BK535.out 4).trans rfl; have hcz64_5 : w58.cell? ⟨gb535, 5, none⟩ = some (.slice none 0 0) := (blk_cell BK535.out 5).trans rfl; have hcz64_6 : w58.cell? ⟨gb535, 6, none⟩ = some (.slice none 0 0) := (blk_cell BK535.out 6).trans rfl; have hfz64_0 := blk_frozen BK535.out 0; have hfz64_1 := blk_frozen BK535.out 1; have hfz64_2 := blk_frozen BK535.out 2; have hfz64_3 := blk_frozen BK535.out 3; have hfz64_4 := blk_frozen BK535.out 4; have hfz64_5 := blk_frozen BK535.out 5; have hfz64_6 := blk_frozen BK535.out 6))
  refine bodyPost_ret (results_ct rfl _ _ gb535 51 #[.int .i64 0, .slice none 0 0, .slice none 0 0, .string (⟨#[]⟩ : ByteArray), .int .i64 0, .slice none 0 0, .slice none 0 0] (0, 0) _ rfl (by refine kK_ ?_; refine blk_put (cs := #[.int .i64 0, .slice none 0 0, .slice none 0 0, .string (⟨#[]⟩ : ByteArray), .int .i64 0, .slice none 0 0, .slice none 0 0]) ?_ 6 _ rfl; refine kK_ ?_; refine blk_put (cs := #[.int .i64 0, .slice none 0 0, .slice none 0 0, .string (⟨#[]⟩ : ByteArray), .int .i64 0, .slice none 0 0, .slice none 0 0]) ?_ 5 _ rfl; refine kK_ ?_; refine blk_put (cs := #[.int .i64 0, .slice none 0 0, .slice none 0 0, .string (⟨#[]⟩ : ByteArray), .int .i64 0, .slice none 0 0, .slice none 0 0]) ?_ 4 _ rfl; refine kK_ ?_; refine blk_put (cs := #[.int .i64 0, .slice none 0 0, .slice none 0 0, .string (⟨#[]⟩ : ByteArray), .int .i64 0, .slice none 0 0, .slice none 0 0]) ?_ 3 _ rfl; refine kK_ ?_; refine blk_put (cs := #[.int .i64 0, .slice none 0 0, .slice none 0 0, .string (⟨#[]⟩ : ByteArray), .int .i64 0, .slice none 0 0, .slice none 0 0]) ?_ 2 _ rfl; refine kK_ ?_; refine blk_put (cs := #[.int .i64 0, .slice none 0 0, .slice none 0 0, .string (⟨#[]⟩ : ByteArray), .int .i64 0, .slice none 0 0, .slice none 0 0]) ?_ 1 _ rfl; refine kK_ ?_; refine blk_put (cs := #[.int .i64 0, .slice none 0 0, .slice none 0 0, .string (⟨#[]⟩ : ByteArray), .int .i64 0, .slice none 0 0, .slice none 0 0]) ?_ 0 _ rfl; refine kK_ ?_; refine blk_far ?_ NB535_553.out _; refine kK_ ?_; refine blk_far ?_ NB535_553.out _; refine kK_ ?_; refine blk_far ?_ NB535_553.out _; exact rK_ BK535.out) Tryd.underlying51 rfl (by kernel_rfl)) rfl ?_
  exact ⟨_, _, _, _, by first | rfl | (simp [errW_none, errW_some] <;> rfl) | (simp [*, errW_none, errW_some] <;> rfl), by first | exact Kd.R_nil _ _ _ _ _ | exact Kd.N_nil _ _ _ _ _ | exact Kd.V_nil _ _ _ _ _ | exact Kd.Q_nil _ _ _ _ _ | exact Kd.S_nil _ _ _ _ _, by first | exact Kd.R_nil _ _ _ _ _ | exact Kd.N_nil _ _ _ _ _ | exact Kd.V_nil _ _ _ _ _ | exact Kd.Q_nil _ _ _ _ _ | exact Kd.S_nil _ _ _ _ _, by first | exact Kd.R_nil _ _ _ _ _ | exact Kd.N_nil _ _ _ _ _ | exact Kd.V_nil _ _ _ _ _ | exact Kd.Q_nil _ _ _ _ _ | exact Kd.S_nil _ _ _ _ _, by first | exact Kd.R_nil _ _ _ _ _ | exact Kd.N_nil _ _ _ _ _ | exact Kd.V_nil _ _ _ _ _ | exact Kd.Q_nil _ _ _ _ _ | exact Kd.S_nil _ _ _ _ _, (u6_ GE535.out GE544.out GE553.out)⟩

/-! ### impl_HyperIndex: function 60 -/
def impl_HyperIndex.f (k : Nat) (a0_0 : Int) (l0_1 : List ByteArray) (l0_2 : List ByteArray) (a0_3 : ByteArray) (a0_4 : Int) (l0_5 : List ByteArray) (l0_6 : List ByteArray) : Option (Int) := (impl_SigOk.f k a0_0 l0_1 l0_2).bind fun t555 => (if t555 = true then ((impl_SigOk.f k a0_4 l0_5 l0_6).bind fun t556 => (if t556 = true then (some (wrap64 ((wrap64 (4 * a0_0)) + a0_4))) else (some (-1)))) else (some (-1)))
theorem impl_HyperIndex.mono : ∀ a0 a1 a2 a3 a4 a5 a6 k, LeO (impl_HyperIndex.f k a0 a1 a2 a3 a4 a5 a6) (impl_HyperIndex.f (k + 1) a0 a1 a2 a3 a4 a5 a6) := by
 intro a0 a1 a2 a3 a4 a5 a6 k
 unfold impl_HyperIndex.f
 repeat' first
   | (with_reducible exact impl_SigOk.mono _ _ _ _)
   | (with_reducible exact LeO.refl _)
   | (with_reducible exact LeO.none _)
   | (with_reducible refine LeO.ite ?_ ?_)
   | (with_reducible refine LeO.bind ?_ (fun _ => ?_))
   | exact impl_SigOk.mono _ _ _ _
   | exact LeO.none _
   | refine LeO.ite ?_ ?_
   | refine LeO.bind ?_ (fun _ => ?_)
theorem impl_HyperIndex.calls (k : Nat) (a0_0 : Int) (A0_1 : Option Addr) (c0_1 : Nat) (l0_1 : List ByteArray) (A0_2 : Option Addr) (c0_2 : Nat) (l0_2 : List ByteArray) (a0_3 : ByteArray) (a0_4 : Int) (A0_5 : Option Addr) (c0_5 : Nat) (l0_5 : List ByteArray) (A0_6 : Option Addr) (c0_6 : Nat) (l0_6 : List ByteArray) (r : Int) (w : World) (hr0_1 : Kd.C Kd.string w A0_1 l0_1.length l0_1) (hc0_1 : l0_1.length ≤ c0_1) (hr0_2 : Kd.C Kd.string w A0_2 l0_2.length l0_2) (hc0_2 : l0_2.length ≤ c0_2) (hr0_5 : Kd.C Kd.string w A0_5 l0_5.length l0_5) (hc0_5 : l0_5.length ≤ c0_5) (hr0_6 : Kd.C Kd.string w A0_6 l0_6.length l0_6) (hc0_6 : l0_6.length ≤ c0_6) (h : impl_HyperIndex.f k a0_0 l0_1 l0_2 a0_3 a0_4 l0_5 l0_6 = some r) :
  Calls Tryd.prog 60 #[.agg #[.int .i64 a0_0, .slice A0_1 l0_1.length c0_1, .slice A0_2 l0_2.length c0_2, .string a0_3, .int .i64 a0_4, .slice A0_5 l0_5.length c0_5, .slice A0_6 l0_6.length c0_6]] w fun e w' => e = .returned (.int .i64 r) ∧ Below w.heap.size w w' := by
 have hu51 := Tryd.underlying51
 have hu42 := Tryd.underlying42
 have HR0_1 := Aside0.mk hr0_1
 have HC0_1 := Aside0.mk hc0_1
 clear hr0_1 hc0_1
 have HR0_2 := Aside0.mk hr0_2
 have HC0_2 := Aside0.mk hc0_2
 clear hr0_2 hc0_2
 have HR0_5 := Aside0.mk hr0_5
 have HC0_5 := Aside0.mk hc0_5
 clear hr0_5 hc0_5
 have HR0_6 := Aside0.mk hr0_6
 have HC0_6 := Aside0.mk hc0_6
 clear hr0_6 hc0_6
 have HB := Aside0.mk (Below.refl w.heap.size w)
 have H : ((impl_SigOk.f k a0_0 l0_1 l0_2).bind fun t555 => (if t555 = true then ((impl_SigOk.f k a0_4 l0_5 l0_6).bind fun t556 => (if t556 = true then (some (wrap64 ((wrap64 (4 * a0_0)) + a0_4))) else (some (-1)))) else (some (-1)))) = some r := h
 clear h
 replace H := Option.bind_eq_some_iff.mp H
 obtain ⟨t555, A20, H⟩ := H
 try dsimp -simprocs only at H
 have A2 := Aside0.mk A20
 clear A20
 by_cases c3 : t555 = true
 ·subst c3
  have H1 : ((impl_SigOk.f k a0_4 l0_5 l0_6).bind fun t556 => (if t556 = true then (some (wrap64 ((wrap64 (4 * a0_0)) + a0_4))) else (some (-1)))) = some r := by rw [if_pos rfl] at H; exact H
  clear H
  have H := H1
  clear H1
  replace H := Option.bind_eq_some_iff.mp H
  obtain ⟨t556, A40, H⟩ := H
  try dsimp -simprocs only at H
  have A4 := Aside0.mk A40
  clear A40
  by_cases c5 : t556 = true
  ·subst c5
   have H1 : (some (wrap64 ((wrap64 (4 * a0_0)) + a0_4))) = some r := by rw [if_pos rfl] at H; exact H
   clear H
   have H := H1
   clear H1
   obtain rfl := Option.some.inj H
   go_enter Tryd.func60, Tryd.ntmps60
   go_wp2_with (first | ((with_reducible refine gate_dst (N := 1) rfl ?_); refine box_event ?hg (N := 1) ?hd (cs := #[.int .i64 a0_0, .slice A0_1 l0_1.length c0_1, .slice A0_2 l0_2.length c0_2, .string a0_3, .int .i64 a0_4, .slice A0_5 l0_5.length c0_5, .slice A0_6 l0_6.length c0_6]) (t := 51) ?hr ?_; (case hd => rfl); (case hg => rfl); (case hr => first | (go_simp; done) | (go_simp; rfl)); intro gb554 hg w6 hbox hb; have n0_ := Aside0.mk (below_step (hB_) hb); have n1_ := Aside0.mk (hbox); have n2_ := Aside0.mk ((by rw [hg]; exact (below_size (hB_)) : w.heap.size ≤ gb554)); have n3_ := Aside0.mk ((by rw [hg]; exact (below_size (hB_)) : w.heap.size ≤ gb554)); replace HB := n0_; have BK554 := n1_; have GW554 := n2_; have GE554 := n3_; clear n0_ n1_ n2_ n3_; clear hb hbox hg; have hcz7_0 : w6.cell? ⟨gb554, 0, none⟩ = some (.int .i64 a0_0) := (blk_cell BK554.out 0).trans rfl; have hcz7_1 : w6.cell? ⟨gb554, 1, none⟩ = some (.slice A0_1 l0_1.length c0_1) := (blk_cell BK554.out 1).trans rfl; have hcz7_2 : w6.cell? ⟨gb554, 2, none⟩ = some (.slice A0_2 l0_2.length c0_2) := (blk_cell BK554.out 2).trans rfl; have hcz7_3 : w6.cell? ⟨gb554, 3, none⟩ = some (.string a0_3) := (blk_cell BK554.out 3).trans rfl; have hcz7_4 : w6.cell? ⟨gb554, 4, none⟩ = some (.int .i64 a0_4) := (blk_cell BK554.out 4).trans rfl; have hcz7_5 : w6.cell? ⟨gb554, 5, none⟩ = some (.slice A0_5 l0_5.length c0_5) := (blk_cell BK554.out 5).trans rfl; have hcz7_6 : w6.cell? ⟨gb554, 6, none⟩ = some (.slice A0_6 l0_6.length c0_6) := (blk_cell BK554.out 6).trans rfl; have hfz7_0 := blk_frozen BK554.out 0; have hfz7_1 := blk_frozen BK554.out 1; have hfz7_2 := blk_frozen BK554.out 2; have hfz7_3 := blk_frozen BK554.out 3; have hfz7_4 := blk_frozen BK554.out 4; have hfz7_5 := blk_frozen BK554.out 5; have hfz7_6 := blk_frozen BK554.out 6) | ((with_reducible refine gate_callee (f := 47) rfl ?_); refine goesL_ (some 5) rfl rfl Tryd.func47 (by kernel_rfl) rfl #[.agg #[.int .i64 a0_0, .slice A0_1 l0_1.length c0_1, .slice A0_2 l0_2.length c0_2]] rfl aM_ ?_; (with_reducible refine (impl_SigOk.calls k a0_0 _ _ l0_1 _ _ l0_2 true _ ?side1 ?side2 ?side3 ?side4 A2.out).mono ?_); (case side1 => exact cR_ (Kd.C_below HR0_1.out HB.out)); (case side2 => exact HC0_1.out); (case side3 => exact cR_ (Kd.C_below HR0_2.out HB.out)); (case side4 => exact HC0_2.out); rintro e w8 ⟨rfl, hb⟩; refine ⟨_, rfl, ?_⟩; have n0_ := Aside0.mk (blk_below (g := gb554) (o := .cells #[.int .i64 a0_0, .slice A0_1 l0_1.length c0_1, .slice A0_2 l0_2.length c0_2, .string a0_3, .int .i64 a0_4, .slice A0_5 l0_5.length c0_5, .slice A0_6 l0_6.length c0_6] 51 (0, 0)) (rK_ BK554.out) hb); have n1_ := Aside0.mk (below_step (hS_ GE554.out) hb); replace BK554 := n0_; replace HB := n1_; clear n0_ n1_; (try clear hb); have hcz9_0 : w8.cell? ⟨gb554, 0, none⟩ = some (.int .i64 a0_0) := (blk_cell BK554.out 0).trans rfl; have hcz9_1 : w8.cell? ⟨gb554, 1, none⟩ = some (.slice A0_1 l0_1.length c0_1) := (blk_cell BK554.out 1).trans rfl; have hcz9_2 : w8.cell? ⟨gb554, 2, none⟩ = some (.slice A0_2 l0_2.length c0_2) := (blk_cell BK554.out 2).trans rfl; have hcz9_3 : w8.cell? ⟨gb554, 3, none⟩ = some (.string a0_3) := (blk_cell BK554.out 3).trans rfl; have hcz9_4 : w8.cell? ⟨gb554, 4, none⟩ = some (.int .i64 a0_4) := (blk_cell BK554.out 4).trans rfl; have hcz9_5 : w8.cell? ⟨gb554, 5, none⟩ = some (.slice A0_5 l0_5.length c0_5) := (blk_cell BK554.out 5).trans rfl; have hcz9_6 : w8.cell? ⟨gb554, 6, none⟩ = some (.slice A0_6 l0_6.length c0_6) := (blk_cell BK554.out 6).trans rfl; have hfz9_0 := blk_frozen BK554.out 0; have hfz9_1 := blk_frozen BK554.out 1; have hfz9_2 := blk_frozen BK554.out 2; have hfz9_3 := blk_frozen BK554.out 3; have hfz9_4 := blk_frozen BK554.out 4; have hfz9_5 := blk_frozen BK554.out 5; have hfz9_6 := blk_frozen BK554.out 6) | (go_at_call 47; (with_reducible refine (impl_SigOk.calls k a0_4 _ _ l0_5 _ _ l0_6 true _ ?side1 ?side2 ?side3 ?side4 A4.out).mono ?_); (case side1 => exact cR_ (Kd.C_below HR0_5.out HB.out)); (case side2 => exact HC0_5.out); (case side3 => exact cR_ (Kd.C_below HR0_6.out HB.out)); (case side4 => exact HC0_6.out); rintro e w10 ⟨rfl, hb⟩; have n0_ := Aside0.mk (blk_below (g := gb554) (o := .cells #[.int .i64 a0_0, .slice A0_1 l0_1.length c0_1, .slice A0_2 l0_2.length c0_2, .string a0_3, .int .i64 a0_4, .slice A0_5 l0_5.length c0_5, .slice A0_6 l0_6.length c0_6] 51 (0, 0)) (rK_ BK554.out) hb); have n1_ := Aside0.mk (below_step (hS_ GE554.out) hb); replace BK554 := n0_; replace HB := n1_; clear n0_ n1_; (try clear hb); have hcz11_0 : w10.cell? ⟨gb554, 0, none⟩ = some (.int .i64 a0_0) := (blk_cell BK554.out 0).trans rfl; have hcz11_1 : w10.cell? ⟨gb554, 1, none⟩ = some (.slice A0_1 l0_1.length c0_1) := (blk_cell BK554.out 1).trans rfl; have hcz11_2 : w10.cell? ⟨gb554, 2, none⟩ = some (.slice A0_2 l0_2.length c0_2) := (blk_cell BK554.out 2).trans rfl; have hcz11_3 : w10.cell? ⟨gb554, 3, none⟩ = some (.string a0_3) := (blk_cell BK554.out 3).trans rfl; have hcz11_4 : w10.cell? ⟨gb554, 4, none⟩ = some (.int .i64 a0_4) := (blk_cell BK554.out 4).trans rfl; have hcz11_5 : w10.cell? ⟨gb554, 5, none⟩ = some (.slice A0_5 l0_5.length c0_5) := (blk_cell BK554.out 5).trans rfl; have hcz11_6 : w10.cell? ⟨gb554, 6, none⟩ = some (.slice A0_6 l0_6.length c0_6) := (blk_cell BK554.out 6).trans rfl; have hfz11_0 := blk_frozen BK554.out 0; have hfz11_1 := blk_frozen BK554.out 1; have hfz11_2 := blk_frozen BK554.out 2; have hfz11_3 := blk_frozen BK554.out 3; have hfz11_4 := blk_frozen BK554.out 4; have hfz11_5 := blk_frozen BK554.out 5; have hfz11_6 := blk_frozen BK554.out 6))
   go_ret
   exact ⟨by first | rfl | (simp [errW_none, errW_some] <;> rfl) | (simp [*, errW_none, errW_some] <;> rfl), hS_ GE554.out⟩
  ·replace c5 := Bool.eq_false_iff.mpr c5
   subst c5
   have H1 : (some (-1)) = some r := by rw [if_neg (show ¬ (false = true) by decide)] at H; exact H
   clear H
   have H := H1
   clear H1
   obtain rfl := Option.some.inj H
   go_enter Tryd.func60, Tryd.ntmps60
   go_wp2_with (first | ((with_reducible refine gate_dst (N := 1) rfl ?_); refine box_event ?hg (N := 1) ?hd (cs := #[.int .i64 a0_0, .slice A0_1 l0_1.length c0_1, .slice A0_2 l0_2.length c0_2, .string a0_3, .int .i64 a0_4, .slice A0_5 l0_5.length c0_5, .slice A0_6 l0_6.length c0_6]) (t := 51) ?hr ?_; (case hd => rfl); (case hg => rfl); (case hr => first | (go_simp; done) | (go_simp; rfl)); intro gb554 hg w12 hbox hb; have n0_ := Aside0.mk (below_step (hB_) hb); have n1_ := Aside0.mk (hbox); have n2_ := Aside0.mk ((by rw [hg]; exact (below_size (hB_)) : w.heap.size ≤ gb554)); have n3_ := Aside0.mk ((by rw [hg]; exact (below_size (hB_)) : w.heap.size ≤ gb554)); replace HB := n0_; have BK554 := n1_; have GW554 := n2_; have GE554 := n3_; clear n0_ n1_ n2_ n3_; clear hb hbox hg; have hcz13_0 : w12.cell? ⟨gb554, 0, none⟩ = some (.int .i64 a0_0) := (blk_cell BK554.out 0).trans rfl; have hcz13_1 : w12.cell? ⟨gb554, 1, none⟩ = some (.slice A0_1 l0_1.length c0_1) := (blk_cell BK554.out 1).trans rfl; have hcz13_2 : w12.cell? ⟨gb554, 2, none⟩ = some (.slice A0_2 l0_2.length c0_2) := (blk_cell BK554.out 2).trans rfl; have hcz13_3 : w12.cell? ⟨gb554, 3, none⟩ = some (.string a0_3) := (blk_cell BK554.out 3).trans rfl; have hcz13_4 : w12.cell? ⟨gb554, 4, none⟩ = some (.int .i64 a0_4) := (blk_cell BK554.out 4).trans rfl; have hcz13_5 : w12.cell? ⟨gb554, 5, none⟩ = some (.slice A0_5 l0_5.length c0_5) := (blk_cell BK554.out 5).trans rfl; have hcz13_6 : w12.cell? ⟨gb554, 6, none⟩ = some (.slice A0_6 l0_6.length c0_6) := (blk_cell BK554.out 6).trans rfl; have hfz13_0 := blk_frozen BK554.out 0; have hfz13_1 := blk_frozen BK554.out 1; have hfz13_2 := blk_frozen BK554.out 2; have hfz13_3 := blk_frozen BK554.out 3; have hfz13_4 := blk_frozen BK554.out 4; have hfz13_5 := blk_frozen BK554.out 5; have hfz13_6 := blk_frozen BK554.out 6) | ((with_reducible refine gate_callee (f := 47) rfl ?_); refine goesL_ (some 5) rfl rfl Tryd.func47 (by kernel_rfl) rfl #[.agg #[.int .i64 a0_0, .slice A0_1 l0_1.length c0_1, .slice A0_2 l0_2.length c0_2]] rfl aM_ ?_; (with_reducible refine (impl_SigOk.calls k a0_0 _ _ l0_1 _ _ l0_2 true _ ?side1 ?side2 ?side3 ?side4 A2.out).mono ?_); (case side1 => exact cR_ (Kd.C_below HR0_1.out HB.out)); (case side2 => exact HC0_1.out); (case side3 => exact cR_ (Kd.C_below HR0_2.out HB.out)); (case side4 => exact HC0_2.out); rintro e w14 ⟨rfl, hb⟩; refine ⟨_, rfl, ?_⟩; have n0_ := Aside0.mk (blk_below (g := gb554) (o := .cells #[.int .i64 a0_0, .slice A0_1 l0_1.length c0_1, .slice A0_2 l0_2.length c0_2, .string a0_3, .int .i64 a0_4, .slice A0_5 l0_5.length c0_5, .slice A0_6 l0_6.length c0_6] 51 (0, 0)) (rK_ BK554.out) hb); have n1_ := Aside0.mk (below_step (hS_ GE554.out) hb); replace BK554 := n0_; replace HB := n1_; clear n0_ n1_; (try clear hb); have hcz15_0 : w14.cell? ⟨gb554, 0, none⟩ = some (.int .i64 a0_0) := (blk_cell BK554.out 0).trans rfl; have hcz15_1 : w14.cell? ⟨gb554, 1, none⟩ = some (.slice A0_1 l0_1.length c0_1) := (blk_cell BK554.out 1).trans rfl; have hcz15_2 : w14.cell? ⟨gb554, 2, none⟩ = some (.slice A0_2 l0_2.length c0_2) := (blk_cell BK554.out 2).trans rfl; have hcz15_3 : w14.cell? ⟨gb554, 3, none⟩ = some (.string a0_3) := (blk_cell BK554.out 3).trans rfl; have hcz15_4 : w14.cell? ⟨gb554, 4, none⟩ = some (.int .i64 a0_4) := (blk_cell BK554.out 4).trans rfl; have hcz15_5 : w14.cell? ⟨gb554, 5, none⟩ = some (.slice A0_5 l0_5.length c0_5) := (blk_cell BK554.out 5).trans rfl; have hcz15_6 : w14.cell? ⟨gb554, 6, none⟩ = some (.slice A0_6 l0_6.length c0_6) := (blk_cell BK554.out 6).trans rfl; have hfz15_0 := blk_frozen BK554.out 0; have hfz15_1 := blk_frozen BK554.out 1; have hfz15_2 := blk_frozen BK554.out 2; have hfz15_3 := blk_frozen BK554.out 3; have hfz15_4 := blk_frozen BK554.out 4; have hfz15_5 := blk_frozen BK554.out 5; have hfz15_6 := blk_frozen BK554.out 6) | (go_at_call 47; (with_reducible refine (impl_SigOk.calls k a0_4 _ _ l0_5 _ _ l0_6 false _ ?side1 ?side2 ?side3 ?side4 A4.out).mono ?_); (case side1 => exact cR_ (Kd.C_below HR0_5.out HB.out)); (case side2 => exact HC0_5.out); (case side3 => exact cR_ (Kd.C_below HR0_6.out HB.out)); (case side4 => exact HC0_6.out); rintro e w16 ⟨rfl, hb⟩; have n0_ := Aside0.mk (blk_below (g := gb554) (o := .cells #[.int .i64 a0_0, .slice A0_1 l0_1.length c0_1, .slice A0_2 l0_2.length c0_2, .string a0_3, .int .i64 a0_4, .slice A0_5 l0_5.length c0_5, .slice A0_6 l0_6.length c0_6] 51 (0, 0)) (rK_ BK554.out) hb); have n1_ := Aside0.mk (below_step (hS_ GE554.out) hb); replace BK554 := n0_; replace HB := n1_; clear n0_ n1_; (try clear hb)))
   go_ret
   exact ⟨by first | rfl | (simp [errW_none, errW_some] <;> rfl) | (simp [*, errW_none, errW_some] <;> rfl), hS_ GE554.out⟩
 ·replace c3 := Bool.eq_false_iff.mpr c3
  subst c3
  have H1 : (some (-1)) = some r := by rw [if_neg (show ¬ (false = true) by decide)] at H; exact H
  clear H
  have H := H1
  clear H1
  obtain rfl := Option.some.inj H
  go_enter Tryd.func60, Tryd.ntmps60
  go_wp2_with (first | ((with_reducible refine gate_dst (N := 1) rfl ?_); refine box_event ?hg (N := 1) ?hd (cs := #[.int .i64 a0_0, .slice A0_1 l0_1.length c0_1, .slice A0_2 l0_2.length c0_2, .string a0_3, .int .i64 a0_4, .slice A0_5 l0_5.length c0_5, .slice A0_6 l0_6.length c0_6]) (t := 51) ?hr ?_; (case hd => rfl); (case hg => rfl); (case hr => first | (go_simp; done) | (go_simp; rfl)); intro gb554 hg w17 hbox hb; have n0_ := Aside0.mk (below_step (hB_) hb); have n1_ := Aside0.mk (hbox); have n2_ := Aside0.mk ((by rw [hg]; exact (below_size (hB_)) : w.heap.size ≤ gb554)); have n3_ := Aside0.mk ((by rw [hg]; exact (below_size (hB_)) : w.heap.size ≤ gb554)); replace HB := n0_; have BK554 := n1_; have GW554 := n2_; have GE554 := n3_; clear n0_ n1_ n2_ n3_; clear hb hbox hg; have hcz18_0 : w17.cell? ⟨gb554, 0, none⟩ = some (.int .i64 a0_0) := (blk_cell BK554.out 0).trans rfl; have hcz18_1 : w17.cell? ⟨gb554, 1, none⟩ = some (.slice A0_1 l0_1.length c0_1) := (blk_cell BK554.out 1).trans rfl; have hcz18_2 : w17.cell? ⟨gb554, 2, none⟩ = some (.slice A0_2 l0_2.length c0_2) := (blk_cell BK554.out 2).trans rfl; have hcz18_3 : w17.cell? ⟨gb554, 3, none⟩ = some (.string a0_3) := (blk_cell BK554.out 3).trans rfl; have hcz18_4 : w17.cell? ⟨gb554, 4, none⟩ = some (.int .i64 a0_4) := (blk_cell BK554.out 4).trans rfl; have hcz18_5 : w17.cell? ⟨gb554, 5, none⟩ = some (.slice A0_5 l0_5.length c0_5) := (blk_cell BK554.out 5).trans rfl; have hcz18_6 : w17.cell? ⟨gb554, 6, none⟩ = some (.slice A0_6 l0_6.length c0_6) := (blk_cell BK554.out 6).trans rfl; have hfz18_0 := blk_frozen BK554.out 0; have hfz18_1 := blk_frozen BK554.out 1; have hfz18_2 := blk_frozen BK554.out 2; have hfz18_3 := blk_frozen BK554.out 3; have hfz18_4 := blk_frozen BK554.out 4; have hfz18_5 := blk_frozen BK554.out 5; have hfz18_6 := blk_frozen BK554.out 6) | ((with_reducible refine gate_callee (f := 47) rfl ?_); refine goesL_ (some 5) rfl rfl Tryd.func47 (by kernel_rfl) rfl #[.agg #[.int .i64 a0_0, .slice A0_1 l0_1.length c0_1, .slice A0_2 l0_2.length c0_2]] rfl aM_ ?_; (with_reducible refine (impl_SigOk.calls k a0_0 _ _ l0_1 _ _ l0_2 false _ ?side1 ?side2 ?side3 ?side4 A2.out).mono ?_); (case side1 => exact cR_ (Kd.C_below HR0_1.out HB.out)); (case side2 => exact HC0_1.out); (case side3 => exact cR_ (Kd.C_below HR0_2.out HB.out)); (case side4 => exact HC0_2.out); rintro e w19 ⟨rfl, hb⟩; refine ⟨_, rfl, ?_⟩; have n0_ := Aside0.mk (blk_below (g := gb554) (o := .cells #[.int .i64 a0_0, .slice A0_1 l0_1.length c0_1, .slice A0_2 l0_2.length c0_2, .string a0_3, .int .i64 a0_4, .slice A0_5 l0_5.length c0_5, .slice A0_6 l0_6.length c0_6] 51 (0, 0)) (rK_ BK554.out) hb); have n1_ := Aside0.mk (below_step (hS_ GE554.out) hb); replace BK554 := n0_; replace HB := n1_; clear n0_ n1_; (try clear hb)))
  go_ret
  exact ⟨by first | rfl | (simp [errW_none, errW_some] <;> rfl) | (simp [*, errW_none, errW_some] <;> rfl), hS_ GE554.out⟩

end Go.Proofs.YtjcmafoepabpkaaDoor.P
