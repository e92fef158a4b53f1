-- PRINTED by print.py (a twelfth state) out of the translation. Not trusted: Lean checks it.
import Derived.Test.YtcpgpjggnghpdaaPx0
namespace Go.Proofs.Ytcpgpjggnghpdaa.P
open Go.RowKit Go.Proofs.YtcpgpjggnghpdaaW.PrintWords Go.Proofs.YtcpgpjggnghpdaaW.PrintLast Go.Proofs.YtcpgpjggnghpdaaW.PrintMore
attribute [local go_sem] max2_int min2_int max_two min_two max_three min_three max_four min_four   -- for this text's walks alone
set_option linter.unusedVariables false
set_option linter.unusedSimpArgs false

/-! ### impl_ReadSig: function 65 -/
mutual
def impl_ReadSig.j0 : Nat → ByteArray → Bool → Option (Int × List ByteArray × List ByteArray × Bool)
 | 0, _, _ => none
 | k + 1, x0, x14 => if x14 = true then (some (0, ([] : List ByteArray), ([] : List ByteArray), false)) else (if 0 < (x0.size : Int) then (impl_ReadSig.l0 k x0 0 (wrap64 (bt x0 0)) ([] : List ByteArray) ([] : List ByteArray)) else (none))
def impl_ReadSig.l0 : Nat → ByteArray → Int → Int → List ByteArray → List ByteArray → Option (Int × List ByteArray × List ByteArray × Bool)
 | 0, _, _, _, _, _ => none
 | k + 1, x0, x20, x709000, x709001, x709002 => if x20 < 12 then (if 0 ≤ (wrap64 (1 + (wrap64 (x20 * 4)))) then (if (wrap64 (1 + (wrap64 (x20 * 4)))) ≤ (wrap64 (1 + (wrap64 ((wrap64 (x20 + 1)) * 4)))) then (if (wrap64 (1 + (wrap64 ((wrap64 (x20 + 1)) * 4)))) ≤ (x0.size : Int) then (if x20 < 10 then (if x709001.length < 8796093022208 then (impl_ReadSig.l0 k x0 (wrap64 (x20 + 1)) x709000 (x709001 ++ [x0.extract ((wrap64 (1 + (wrap64 (x20 * 4)))) : Int).toNat ((wrap64 (1 + (wrap64 ((wrap64 (x20 + 1)) * 4)))) : Int).toNat]) x709002) else (none)) else (if x709002.length < 8796093022208 then (impl_ReadSig.l0 k x0 (wrap64 (x20 + 1)) x709000 x709001 (x709002 ++ [x0.extract ((wrap64 (1 + (wrap64 (x20 * 4)))) : Int).toNat ((wrap64 (1 + (wrap64 ((wrap64 (x20 + 1)) * 4)))) : Int).toNat])) else (none))) else (none)) else (none)) else (none)) else (some (x709000, x709001, x709002, true))
end
def impl_ReadSig.f (k : Nat) (a0 : ByteArray) : Option (Int × List ByteArray × List ByteArray × Bool) := if (a0.size : Int) = 49 then (if 0 < (a0.size : Int) then (impl_ReadSig.j0 k a0 (decide ((bt a0 0) ≥ 4))) else (none)) else (impl_ReadSig.j0 k a0 true)
theorem impl_ReadSig.mono_l : ∀ k, (∀ y0 y1, LeO (impl_ReadSig.j0 k y0 y1) (impl_ReadSig.j0 (k + 1) y0 y1)) ∧ (∀ y0 y1 y2 y3 y4, LeO (impl_ReadSig.l0 k y0 y1 y2 y3 y4) (impl_ReadSig.l0 (k + 1) y0 y1 y2 y3 y4))
 | 0 => ⟨fun _ _ r h => by simp [impl_ReadSig.j0] at h, fun _ _ _ _ _ r h => by simp [impl_ReadSig.l0] at h⟩
 | k + 1 => by
  obtain ⟨ih0, ih1⟩ := impl_ReadSig.mono_l k
  refine ⟨?_, ?_⟩
  ·intro y0 y1
   unfold impl_ReadSig.j0
   repeat' first
   | (with_reducible exact ih0 _ _)
   | (with_reducible exact ih1 _ _ _ _ _)
   | (with_reducible exact LeO.refl _)
   | (with_reducible exact LeO.none _)
   | (with_reducible refine LeO.ite ?_ ?_)
   | (with_reducible refine LeO.bind ?_ (fun _ => ?_))
   | exact ih0 _ _
   | exact ih1 _ _ _ _ _
   | exact LeO.none _
   | refine LeO.ite ?_ ?_
   | refine LeO.bind ?_ (fun _ => ?_)
  ·intro y0 y1 y2 y3 y4
   unfold impl_ReadSig.l0
   repeat' first
   | (with_reducible exact ih0 _ _)
   | (with_reducible exact ih1 _ _ _ _ _)
   | (with_reducible exact LeO.refl _)
   | (with_reducible exact LeO.none _)
   | (with_reducible refine LeO.ite ?_ ?_)
   | (with_reducible refine LeO.bind ?_ (fun _ => ?_))
   | exact ih0 _ _
   | exact ih1 _ _ _ _ _
   | exact LeO.none _
   | refine LeO.ite ?_ ?_
   | refine LeO.bind ?_ (fun _ => ?_)
theorem impl_ReadSig.mono : ∀ a0 k, LeO (impl_ReadSig.f k a0) (impl_ReadSig.f (k + 1) a0) := by
 intro a0 k
 obtain ⟨ih0, ih1⟩ := impl_ReadSig.mono_l k
 unfold impl_ReadSig.f
 repeat' first
   | (with_reducible exact ih0 _ _)
   | (with_reducible exact ih1 _ _ _ _ _)
   | (with_reducible exact LeO.refl _)
   | (with_reducible exact LeO.none _)
   | (with_reducible refine LeO.ite ?_ ?_)
   | (with_reducible refine LeO.bind ?_ (fun _ => ?_))
   | exact ih0 _ _
   | exact ih1 _ _ _ _ _
   | exact LeO.none _
   | refine LeO.ite ?_ ?_
   | refine LeO.bind ?_ (fun _ => ?_)
set_option maxHeartbeats 8000000 in
set_option maxRecDepth 100000 in
theorem impl_ReadSig.calls (k : Nat) (a0 : ByteArray) (r1 : Int) (r2 : List ByteArray) (r3 : List ByteArray) (r4 : Bool) (w : World) (h : impl_ReadSig.f k a0 = some (r1, r2, r3, r4)) :
  Calls Try.prog 65 #[.string a0] w fun e w' => ∃ v1_ v2_ : Value, e = .returned (.tuple #[.agg #[.int .i64 r1, v1_, v2_], .bool r4]) ∧ Kd.R Kd.string 9 w' w.heap.size (fun k_ => some k_ ≠ (v2_ : Value).ownBlock) v1_ r2 ∧ Kd.R Kd.string 9 w' w.heap.size (fun k_ => some k_ ≠ (v1_ : Value).ownBlock) v2_ r3 ∧ Below w.heap.size w w' := by
 have hu41 := Try.underlying41
 have HB := Aside0.mk (Below.refl w.heap.size w)
 have H : (if (a0.size : Int) = 49 then (if 0 < (a0.size : Int) then (impl_ReadSig.j0 k a0 (decide ((bt a0 0) ≥ 4))) else (none)) else (impl_ReadSig.j0 k a0 true)) = some (r1, r2, r3, r4) := h
 clear h
 have HC2 := Aside0.mk H
 clear H
 go_enter Try.func65, Try.ntmps65
 go_upto_region 1 with (first | ((with_reducible refine gate_dst (N := 2) rfl ?_); refine box_event ?hg (N := 2) ?hd (cs := #[.int .i64 0, .slice none 0 0, .slice none 0 0]) (t := 41) ?hr ?_; (case hd => rfl); (case hg => rfl); (case hr => first | (go_simp; done) | (go_simp; rfl)); intro gb707 hg w3 hbox hb; have n0_ := Aside0.mk (below_step (by repeat (first | (with_reducible first | exact HB.out | apply below_alloc | apply pw_below_drewN | apply below_drew1) | exact HB.out)) hb); have n1_ := Aside0.mk (hbox); have n2_ := Aside0.mk ((by rw [hg]; exact (below_size (by repeat (first | (with_reducible first | exact HB.out | apply below_alloc | apply pw_below_drewN | apply below_drew1) | exact HB.out))) : w.heap.size ≤ gb707)); have n3_ := Aside0.mk ((by rw [hg]; exact (below_size (by repeat (first | (with_reducible first | exact HB.out | apply below_alloc | apply pw_below_drewN | apply below_drew1) | exact HB.out))) : w.heap.size ≤ gb707)); clear HB; have HB := n0_; have BK707 := n1_; have GW707 := n2_; have GE707 := n3_; clear n0_ n1_ n2_ n3_; clear hb hbox hg))
 (try simp only [Act.put, List.setIfInBounds_toArray, List.set_cons_zero, List.set_cons_succ])
 go_cut [14] (fun v14 wc => ∃ (kq : Nat) (x14_1 : Bool), v14 = .bool x14_1 ∧ Aside0 (impl_ReadSig.j0 kq a0 x14_1 = some (r1, r2, r3, r4)) ∧ Aside0 (kq ≤ k) ∧ Aside0 (wc.heap[gb707]? = some (.cells #[.int .i64 0, (.slice none 0 0), (.slice none 0 0)] 41 (0, 0))) ∧ Aside0 (Below w.heap.size w wc))
 case first =>
  have H := HC2.out
  clear HC2
  by_cases c4 : (a0.size : Int) = 49
  ·rw [if_pos c4] at H
   have c4b0 : ((a0.size : Int) == 49) = true := beq_iff_eq.mpr c4
   have c4b1 : ((a0.size : Int) != 49) = false := bne_eq_false_iff_eq.mpr c4
   clear c4
   (first | rw [c4b0] | (simp only [i64_w, i32_w]; rw [c4b0]) | skip)
   by_cases c5 : 0 < (a0.size : Int)
   ·rw [if_pos c5] at H
    have c5b0 : decide (0 < (a0.size : Int)) = true := decide_eq_true c5
    have c5b1 : decide (0 < a0.size) = true := decide_eq_true (by omega)
    clear c5
    have H' := Aside0.mk H
    clear H
    have p6 : 0 ≤ (0 : Int) := (by omega)
    have q6 : 0 < a0.size := (by have : (0 : Int) < (a0.size : Int) := of_decide_eq_true (by first | (with_reducible assumption) | assumption); omega)
    have hx6 : ∀ h : 0 < a0.size, ((a0[0]'h).toNat : Int) = bt a0 0 := bt_at a0 0
    clear p6
    have qi6 : (0 < (a0.size : Int)) = True := eq_true (of_decide_eq_true (by first | (with_reducible assumption) | assumption))
    replace q6 := eq_true q6
    go_wp2
    go_meet
    case rel => exact ⟨_, (decide ((bt a0 0) ≥ 4)), (by first | rfl | (simp; done) | (simp [*]; done)), H', ⟨by first | omega | exact Nat.le_refl _⟩, ⟨by (with_reducible repeat (first | refine blk_drewN ?_ _ | refine blk_drew ?_ | refine blk_alloc ?_ _)); exact BK707.out⟩, ⟨by repeat (first | (with_reducible first | exact HB.out | apply below_alloc | apply pw_below_drewN | apply below_drew1 | refine below_set ?_ GE707.out) | exact HB.out)⟩⟩
   ·rw [if_neg c5] at H
    exact absurd H (by simp)
  ·rw [if_neg c4] at H
   have c4b0 : ((a0.size : Int) == 49) = false := beq_eq_false_iff_ne.mpr c4
   have c4b1 : ((a0.size : Int) != 49) = true := bne_iff_ne.mpr c4
   (first | rw [c4b0] | (simp only [i64_w, i32_w]; rw [c4b0]) | skip)
   have H' := Aside0.mk H
   clear H
   go_wp2
   go_meet
   case rel => exact ⟨_, (true), (by first | rfl | (simp; done) | (simp [*]; done)), H', ⟨by first | omega | exact Nat.le_refl _⟩, ⟨by (with_reducible repeat (first | refine blk_drewN ?_ _ | refine blk_drew ?_ | refine blk_alloc ?_ _)); exact BK707.out⟩, ⟨by repeat (first | (with_reducible first | exact HB.out | apply below_alloc | apply pw_below_drewN | apply below_drew1 | refine below_set ?_ GE707.out) | exact HB.out)⟩⟩
 case rest =>
  clear HC2
  try clear p2
  try clear c4
  try clear c4b0
  try clear c4b1
  try clear c5
  try clear c5b0
  try clear c5b1
  try clear c6
  try clear p6
  try clear q6
  try clear hx6
  try clear qi6
  try clear p6
  try clear q6
  obtain ⟨kq, x14_1, rfl, HA, HJ1, BK707, HB⟩ := hcut
  cases kq with
  | zero => exact absurd HA.out (by simp [impl_ReadSig.j0])
  | succ kj1 =>
   have H := HA.out
   clear HA
   simp only [impl_ReadSig.j0] at H
   by_cases c7 : x14_1 = true
   ·subst c7
    have H1 : (some (0, ([] : List ByteArray), ([] : List ByteArray), false)) = some (r1, r2, r3, r4) := by rw [if_pos rfl] at H; exact H
    clear H
    have H := H1
    clear H1
    simp only [Option.some.injEq, Prod.mk.injEq] at H
    obtain ⟨rfl, rfl, rfl, rfl⟩ := H
    have hcz8_0 : wc.cell? ⟨gb707, 0, none⟩ = some (.int .i64 0) := (blk_cell BK707.out 0).trans rfl
    have hcz8_1 : wc.cell? ⟨gb707, 1, none⟩ = some (.slice none 0 0) := (blk_cell BK707.out 1).trans rfl
    have hcz8_2 : wc.cell? ⟨gb707, 2, none⟩ = some (.slice none 0 0) := (blk_cell BK707.out 2).trans rfl
    have hfz8_0 := blk_frozen BK707.out 0
    have hfz8_1 := blk_frozen BK707.out 1
    have hfz8_2 := blk_frozen BK707.out 2
    go_wp2
    refine bodyPost_ret (results_ct rfl _ _ gb707 41 #[.int .i64 0, .slice none 0 0, .slice none 0 0] (0, 0) _ rfl (by (with_reducible repeat (first | refine blk_drewN ?_ _ | refine blk_drew ?_ | refine blk_alloc ?_ _)); refine blk_put (cs := #[.int .i64 0, .slice none 0 0, .slice none 0 0]) ?_ 2 _ rfl; (with_reducible repeat (first | refine blk_drewN ?_ _ | refine blk_drew ?_ | refine blk_alloc ?_ _)); refine blk_put (cs := #[.int .i64 0, .slice none 0 0, .slice none 0 0]) ?_ 1 _ rfl; (with_reducible repeat (first | refine blk_drewN ?_ _ | refine blk_drew ?_ | refine blk_alloc ?_ _)); refine blk_put (cs := #[.int .i64 0, .slice none 0 0, .slice none 0 0]) ?_ 0 _ rfl; (with_reducible repeat (first | refine blk_drewN ?_ _ | refine blk_drew ?_ | refine blk_alloc ?_ _)); exact BK707.out) Try.underlying41 rfl (by kernel_rfl)) rfl ?_
    exact ⟨_, _, by first | rfl | (simp [errW_none, errW_some] <;> rfl) | (simp [*, errW_none, errW_some] <;> rfl), by first | exact Kd.R_nil _ _ _ _ _ | exact Kd.N_nil _ _ _ _ _ | exact Kd.V_nil _ _ _ _ _ | exact Kd.Q_nil _ _ _ _ _ | exact Kd.S_nil _ _ _ _ _, by first | exact Kd.R_nil _ _ _ _ _ | exact Kd.N_nil _ _ _ _ _ | exact Kd.V_nil _ _ _ _ _ | exact Kd.Q_nil _ _ _ _ _ | exact Kd.S_nil _ _ _ _ _, by repeat (first | (with_reducible first | exact HB.out | apply below_alloc | apply pw_below_drewN | apply below_drew1 | refine below_set ?_ GE707.out) | exact HB.out)⟩
   ·replace c7 := Bool.eq_false_iff.mpr c7
    subst c7
    have H1 : (if 0 < (a0.size : Int) then (impl_ReadSig.l0 kj1 a0 0 (wrap64 (bt a0 0)) ([] : List ByteArray) ([] : List ByteArray)) else (none)) = some (r1, r2, r3, r4) := by rw [if_neg (show ¬ (false = true) by decide)] at H; exact H
    clear H
    have H := H1
    clear H1
    by_cases c9 : 0 < (a0.size : Int)
    ·rw [if_pos c9] at H
     have c9b0 : decide (0 < (a0.size : Int)) = true := decide_eq_true c9
     have c9b1 : decide (0 < a0.size) = true := decide_eq_true (by omega)
     clear c9
     have H' := Aside0.mk H
     clear H
     have p10 : 0 ≤ (0 : Int) := (by omega)
     have q10 : 0 < a0.size := (by have : (0 : Int) < (a0.size : Int) := of_decide_eq_true (by first | (with_reducible assumption) | assumption); omega)
     have hx10 : ∀ h : 0 < a0.size, ((a0[0]'h).toNat : Int) = bt a0 0 := bt_at a0 0
     clear p10
     have qi10 : (0 < (a0.size : Int)) = True := eq_true (of_decide_eq_true (by first | (with_reducible assumption) | assumption))
     replace q10 := eq_true q10
     go_wp2_with (first | ((with_reducible refine gate_dst (N := 4) rfl ?_); refine box_event ?hg (N := 4) ?hd (cs := #[.int .i64 0, .slice none 0 0, .slice none 0 0]) (t := 41) ?hr ?_; (case hd => rfl); (case hg => rfl); (case hr => first | (go_simp; done) | (go_simp; rfl)); intro gb708 hg w11 hbox hb; have n0_ := Aside0.mk (blk_below (g := gb707) (o := .cells #[.int .i64 0, .slice none 0 0, .slice none 0 0] 41 (0, 0)) (by (with_reducible repeat (first | refine blk_drewN ?_ _ | refine blk_drew ?_ | refine blk_alloc ?_ _)); exact BK707.out) hb); have n1_ := Aside0.mk (below_step (by repeat (first | (with_reducible first | exact HB.out | apply below_alloc | apply pw_below_drewN | apply below_drew1 | refine below_set ?_ GE707.out) | exact HB.out)) hb); have n2_ := Aside0.mk (hbox); have n3_ := Aside0.mk ((by rw [hg]; exact (below_size (by repeat (first | (with_reducible first | exact HB.out | apply below_alloc | apply pw_below_drewN | apply below_drew1 | refine below_set ?_ GE707.out) | exact HB.out))) : w.heap.size ≤ gb708)); have n4_ := Aside0.mk ((by rw [hg]; exact (below_size (by repeat (first | (with_reducible first | exact HB.out | apply below_alloc | apply pw_below_drewN | apply below_drew1 | refine below_set ?_ GE707.out) | exact HB.out))) : w.heap.size ≤ gb708)); have n5_ := Aside0.mk ((by rw [hg]; exact Nat.ne_of_lt (blk_lt (g := gb707) (o := .cells #[.int .i64 0, .slice none 0 0, .slice none 0 0] 41 (0, 0)) (by (with_reducible repeat (first | refine blk_drewN ?_ _ | refine blk_drew ?_ | refine blk_alloc ?_ _)); exact BK707.out)) : gb707 ≠ gb708)); have n6_ := Aside0.mk ((by rw [hg]; exact Nat.ne_of_gt (blk_lt (g := gb707) (o := .cells #[.int .i64 0, .slice none 0 0, .slice none 0 0] 41 (0, 0)) (by (with_reducible repeat (first | refine blk_drewN ?_ _ | refine blk_drew ?_ | refine blk_alloc ?_ _)); exact BK707.out)) : gb708 ≠ gb707)); clear BK707; clear HB; have BK707 := n0_; have HB := n1_; have BK708 := n2_; have GW708 := n3_; have GE708 := n4_; have NB707_708 := n5_; have NB708_707 := n6_; clear n0_ n1_ n2_ n3_ n4_ n5_ n6_; clear hb hbox hg; have hnb12 := NB708_707.out; have hnc12 := NB707_708.out; have hcz13_0 : w11.cell? ⟨gb708, 0, none⟩ = some (.int .i64 0) := (blk_cell BK708.out 0).trans rfl; have hcz13_1 : w11.cell? ⟨gb708, 1, none⟩ = some (.slice none 0 0) := (blk_cell BK708.out 1).trans rfl; have hcz13_2 : w11.cell? ⟨gb708, 2, none⟩ = some (.slice none 0 0) := (blk_cell BK708.out 2).trans rfl; have hfz13_0 := blk_frozen BK708.out 0; have hfz13_1 := blk_frozen BK708.out 1; have hfz13_2 := blk_frozen BK708.out 2))
     go_loopg [20] kj1 (fun kq v20 w' => ∃ (x20_2 : Int) (x709001_2 : List ByteArray) (x709002_2 : List ByteArray) (u709001 : Value) (u709002 : Value), v20 = .int .i64 x20_2 ∧ Aside0 (impl_ReadSig.l0 kq a0 x20_2 (wrap64 (bt a0 0)) x709001_2 x709002_2 = some (r1, r2, r3, r4)) ∧ Aside0 (kq ≤ kj1) ∧ Aside0 (Kd.R Kd.string 9 w' w.heap.size (fun k_ => some k_ ≠ (u709002 : Value).ownBlock) u709001 x709001_2) ∧ Aside0 (Kd.R Kd.string 9 w' w.heap.size (fun k_ => some k_ ≠ (u709001 : Value).ownBlock) u709002 x709002_2) ∧ Aside0 (w'.heap[gb707]? = some (.cells #[.int .i64 0, (.slice none 0 0), (.slice none 0 0)] 41 (0, 0))) ∧ Aside0 (w'.heap[gb708]? = some (.cells #[.int .i64 (wrap64 (bt a0 0)), u709001, u709002] 41 (0, 0))) ∧ Aside0 (Below w.heap.size w w'))
     case atStart => exact ⟨(0), (([] : List ByteArray)), (([] : List ByteArray)), (.slice none 0 0), (.slice none 0 0), (by first | rfl | (simp; done) | (simp [*]; done)), H', ⟨Nat.le_refl _⟩, ⟨by first | exact Kd.R_nil _ _ _ _ _ | exact Kd.N_nil _ _ _ _ _ | exact Kd.V_nil _ _ _ _ _ | exact Kd.Q_nil _ _ _ _ _ | exact Kd.S_nil _ _ _ _ _⟩, ⟨by first | exact Kd.R_nil _ _ _ _ _ | exact Kd.N_nil _ _ _ _ _ | exact Kd.V_nil _ _ _ _ _ | exact Kd.Q_nil _ _ _ _ _ | exact Kd.S_nil _ _ _ _ _⟩, ⟨by (with_reducible repeat (first | refine blk_drewN ?_ _ | refine blk_drew ?_ | refine blk_alloc ?_ _)); refine blk_far ?_ NB707_708.out _; (with_reducible repeat (first | refine blk_drewN ?_ _ | refine blk_drew ?_ | refine blk_alloc ?_ _)); refine blk_far ?_ NB707_708.out _; (with_reducible repeat (first | refine blk_drewN ?_ _ | refine blk_drew ?_ | refine blk_alloc ?_ _)); refine blk_far ?_ NB707_708.out _; (with_reducible repeat (first | refine blk_drewN ?_ _ | refine blk_drew ?_ | refine blk_alloc ?_ _)); exact BK707.out⟩, ⟨by (with_reducible repeat (first | refine blk_drewN ?_ _ | refine blk_drew ?_ | refine blk_alloc ?_ _)); refine blk_put (cs := #[.int .i64 (wrap64 (bt a0 0)), .slice none 0 0, .slice none 0 0]) ?_ 2 _ rfl; (with_reducible repeat (first | refine blk_drewN ?_ _ | refine blk_drew ?_ | refine blk_alloc ?_ _)); refine blk_put (cs := #[.int .i64 (wrap64 (bt a0 0)), .slice none 0 0, .slice none 0 0]) ?_ 1 _ rfl; (with_reducible repeat (first | refine blk_drewN ?_ _ | refine blk_drew ?_ | refine blk_alloc ?_ _)); refine blk_put (cs := #[.int .i64 0, .slice none 0 0, .slice none 0 0]) ?_ 0 _ rfl; (with_reducible repeat (first | refine blk_drewN ?_ _ | refine blk_drew ?_ | refine blk_alloc ?_ _)); exact BK708.out⟩, ⟨by repeat (first | (with_reducible first | exact HB.out | apply below_alloc | apply pw_below_drewN | apply below_drew1 | refine below_set ?_ GE707.out | refine below_set ?_ GE708.out) | exact HB.out)⟩⟩
     case round =>
      clear H'
      try clear c1
      try clear p1
      try clear q1
      try clear hx1
      try clear qi1
      try clear p2
      try clear c4
      try clear c4b0
      try clear c4b1
      try clear c5
      try clear c5b0
      try clear c5b1
      try clear c6
      try clear p6
      try clear q6
      try clear hx6
      try clear qi6
      try clear c7
      try clear c9
      try clear c9b0
      try clear c9b1
      try clear p10
      try clear q10
      try clear hx10
      try clear qi10
      try clear c12
      try clear hcz13_0
      try clear hcz13_1
      try clear hcz13_2
      try clear hcz8_0
      try clear hcz8_1
      try clear hcz8_2
      try clear hfz13_0
      try clear hfz13_1
      try clear hfz13_2
      try clear hfz8_0
      try clear hfz8_1
      try clear hfz8_2
      try clear p10
      try clear p2
      try clear p6
      try clear q10
      try clear q6
      obtain ⟨x20_2, x709001_2, x709002_2, u709001, u709002, rfl, HA, HK2, HO_709001, HO_709002, BK707, BK708, HB⟩ := hrel
      cases gk with
      | zero => exact absurd HA.out (by simp [impl_ReadSig.l0])
      | succ k2 =>
       have H := HA.out
       clear HA
       simp only [impl_ReadSig.l0] at H
       by_cases c14 : x20_2 < 12
       ·rw [if_pos c14] at H
        have c14b0 : decide (x20_2 < 12) = true := decide_eq_true c14
        clear c14
        obtain ⟨ji15, hji15⟩ : ∃ j_ : Int, (wrap64 (1 + (wrap64 (x20_2 * 4)))) = j_ := ⟨_, rfl⟩
        replace H : (if 0 ≤ (ji15) then (if (ji15) ≤ (wrap64 (1 + (wrap64 ((wrap64 (x20_2 + 1)) * 4)))) then (if (wrap64 (1 + (wrap64 ((wrap64 (x20_2 + 1)) * 4)))) ≤ (a0.size : Int) then (if x20_2 < 10 then (if x709001_2.length < 8796093022208 then (impl_ReadSig.l0 k2 a0 (wrap64 (x20_2 + 1)) (wrap64 (bt a0 0)) (x709001_2 ++ [a0.extract ((ji15) : Int).toNat ((wrap64 (1 + (wrap64 ((wrap64 (x20_2 + 1)) * 4)))) : Int).toNat]) x709002_2) else (none)) else (if x709002_2.length < 8796093022208 then (impl_ReadSig.l0 k2 a0 (wrap64 (x20_2 + 1)) (wrap64 (bt a0 0)) x709001_2 (x709002_2 ++ [a0.extract ((ji15) : Int).toNat ((wrap64 (1 + (wrap64 ((wrap64 (x20_2 + 1)) * 4)))) : Int).toNat])) else (none))) else (none)) else (none)) else (none)) = some (r1, r2, r3, r4) := by first | (rw [hji15] at H; exact H) | (simp only [hji15] at H ⊢; exact H)
        have hji15w : (IntKind.i64.wrap (1 + (wrap64 (x20_2 * 4)))) = ji15 := (i64_w _).trans hji15
        by_cases c16 : 0 ≤ (ji15)
        ·rw [if_pos c16] at H
         have c16b0 := eq_true c16
         have c16b1 : decide (0 ≤ (ji15)) = true := decide_eq_true c16
         clear c16
         by_cases c17 : (ji15) ≤ (wrap64 (1 + (wrap64 ((wrap64 (x20_2 + 1)) * 4))))
         ·rw [if_pos c17] at H
          have c17b0 := eq_true c17
          have c17b1 : decide ((ji15) ≤ (wrap64 (1 + (wrap64 ((wrap64 (x20_2 + 1)) * 4))))) = true := decide_eq_true c17
          by_cases c18 : (wrap64 (1 + (wrap64 ((wrap64 (x20_2 + 1)) * 4)))) ≤ (a0.size : Int)
          ·rw [if_pos c18] at H
           have c18b0 := eq_true c18
           have c18b1 : decide ((wrap64 (1 + (wrap64 ((wrap64 (x20_2 + 1)) * 4)))) ≤ (a0.size : Int)) = true := decide_eq_true c18
           by_cases c19 : x20_2 < 10
           ·rw [if_pos c19] at H
            have c19b0 : decide (x20_2 < 10) = true := decide_eq_true c19
            clear c19
            by_cases c20 : x709001_2.length < 8796093022208
            ·rw [if_pos c20] at H
             have LMc20 := Aside0.mk c20
             clear c20
             obtain ⟨y709, hy709⟩ : ∃ y_ : List ByteArray, y_ = (x709001_2 ++ [a0.extract ((ji15) : Int).toNat ((wrap64 (1 + (wrap64 ((wrap64 (x20_2 + 1)) * 4)))) : Int).toNat]) := ⟨_, rfl⟩
             replace H : (impl_ReadSig.l0 k2 a0 (wrap64 (x20_2 + 1)) (wrap64 (bt a0 0)) y709 x709002_2) = some (r1, r2, r3, r4) := by first | (rw [hy709]; with_reducible exact H) | (have H2_ := (Option.bind_some _ _).symm.trans H; rw [hy709]; with_reducible exact H2_) | (have H2_ := (Option.bind_some _ _).symm.trans H; with_reducible exact H2_) | with_reducible exact H | (rw [hy709]; exact H) | exact H
             have Ny709 := Aside0.mk hy709
             clear hy709
             have H' := Aside0.mk H
             clear H
             have hnb21 := NB708_707.out
             have hnc21 := NB707_708.out
             have hcz22_0 : wr.cell? ⟨gb708, 0, none⟩ = some (.int .i64 (wrap64 (bt a0 0))) := (blk_cell BK708.out 0).trans rfl
             have hcz22_1 : wr.cell? ⟨gb708, 1, none⟩ = some (u709001) := (blk_cell BK708.out 1).trans rfl
             have hcz22_2 : wr.cell? ⟨gb708, 2, none⟩ = some (u709002) := (blk_cell BK708.out 2).trans rfl
             have hfz22_0 := blk_frozen BK708.out 0
             have hfz22_1 := blk_frozen BK708.out 1
             have hfz22_2 := blk_frozen BK708.out 2
             go_wp2_with (first | ((with_reducible refine gate_builtin (b := .append) (xs := #[.tmp 35, .tmp 37]) rfl ?_); at_builtin; refine Kd.R_append Kd.string (w0 := w) w.heap.size rfl (.tmp 35) (.tmp 37) 34 9 (.string ⟨#[]⟩) 16 rfl Try.underlying34 info9 rfl (by decide) (by omega) u709001 x709001_2 (a0.extract ((ji15) : Int).toNat ((wrap64 (1 + (wrap64 ((wrap64 (x20_2 + 1)) * 4)))) : Int).toNat) [.string (a0.extract ((ji15) : Int).toNat ((wrap64 (1 + (wrap64 ((wrap64 (x20_2 + 1)) * 4)))) : Int).toNat)] (fun k_ => some k_ ≠ (u709002 : Value).ownBlock) (fun _ => False) rfl rfl ?aP (fun _ hk => hk.elim) ?aF ?aO ?aB ?aS ?aL ?_; (case aP => exact rfl); (case aB => exact (by repeat (first | (with_reducible first | exact HB.out | apply below_alloc | apply pw_below_drewN | apply below_drew1 | refine below_set ?_ GE707.out | refine below_set ?_ GE708.out) | exact HB.out))); (case aF => exact (fun k_ hk => Kd.fresh' (Kd.R_lt (by (with_reducible repeat (first | apply Kd.R_alloc | apply Kd.R_drewN | apply Kd.R_drew)); exact HO_709002.out)) k_ hk)); (case aO => exact (by (with_reducible repeat (first | apply Kd.R_alloc | apply Kd.R_drewN | apply Kd.R_drew)); exact HO_709001.out)); (case aS => exact (below_size (by repeat (first | (with_reducible first | exact HB.out | apply below_alloc | apply pw_below_drewN | apply below_drew1 | refine below_set ?_ GE707.out | refine below_set ?_ GE708.out) | exact HB.out)))); (case aL => have := LMc20.out; omega); intro v710 w23 ho hb hg hat; rw [← Ny709.out] at ho; have n0_ := Aside0.mk (Kd.R_after (ok := (fun _ => True)) (by (with_reducible repeat (first | apply Kd.R_alloc | apply Kd.R_drewN | apply Kd.R_drew)); exact Kd.R_mono HO_709002.out (fun _ hk => ⟨trivial, hk⟩)) hg hat); have n1_ := Aside0.mk (blk_grown (g := gb707) (o := .cells #[.int .i64 0, .slice none 0 0, .slice none 0 0] 41 (0, 0)) (by (with_reducible repeat (first | refine blk_drewN ?_ _ | refine blk_drew ?_ | refine blk_alloc ?_ _)); exact BK707.out) hg (Kd.R_ne HO_709001.out BK707.out (by decide))); have n2_ := Aside0.mk (blk_grown (g := gb708) (o := .cells #[.int .i64 (wrap64 (bt a0 0)), u709001, u709002] 41 (0, 0)) (by (with_reducible repeat (first | refine blk_drewN ?_ _ | refine blk_drew ?_ | refine blk_alloc ?_ _)); exact BK708.out) hg (Kd.R_ne HO_709001.out BK708.out (by decide))); have n3_ := Aside0.mk (hb); have n4_ := Aside0.mk (ho); clear HO_709002; clear BK707; clear BK708; clear HB; clear HO_709001; have HO_709002 := n0_; have BK707 := n1_; have BK708 := n2_; have HB := n3_; have HO711 := n4_; clear n0_ n1_ n2_ n3_ n4_; clear ho hb hg hat; obtain ⟨Ao24, co24, eo24⟩ := Kd.R_slice HO711.out; subst eo24; have hcz25_0 : w23.cell? ⟨gb708, 0, none⟩ = some (.int .i64 (wrap64 (bt a0 0))) := (blk_cell BK708.out 0).trans rfl; have hcz25_1 : w23.cell? ⟨gb708, 1, none⟩ = some (u709001) := (blk_cell BK708.out 1).trans rfl; have hcz25_2 : w23.cell? ⟨gb708, 2, none⟩ = some (u709002) := (blk_cell BK708.out 2).trans rfl; have hfz25_0 := blk_frozen BK708.out 0; have hfz25_1 := blk_frozen BK708.out 1; have hfz25_2 := blk_frozen BK708.out 2))
             go_roundg k2
             case measure => have := HJ1.out; have := HK2.out; omega
             case rel => exact ⟨(wrap64 (x20_2 + 1)), (y709), (x709002_2), (.slice Ao24 y709.length co24), (u709002), (by first | rfl | (simp; done) | (simp [*]; done)), H', ⟨by have := HJ1.out; have := HK2.out; omega⟩, ⟨by (with_reducible repeat (first | apply Kd.R_alloc | apply Kd.R_drewN | apply Kd.R_drew)); exact Kd.R_mono (Kd.R_far (p := ⟨gb708, 1, none⟩) (Kd.R_types HO711.out BK708.out (by decide)) (fun _ hk => hk.2) (.slice Ao24 y709.length co24)) (fun _ hk => hk.1)⟩, ⟨by (with_reducible repeat (first | apply Kd.R_alloc | apply Kd.R_drewN | apply Kd.R_drew)); exact Kd.R_mono (Kd.R_far (p := ⟨gb708, 1, none⟩) (Kd.R_types HO_709002.out BK708.out (by decide)) (fun _ hk => hk.2) (.slice Ao24 y709.length co24)) (fun _ hk => hk.1.2)⟩, ⟨by (with_reducible repeat (first | refine blk_drewN ?_ _ | refine blk_drew ?_ | refine blk_alloc ?_ _)); refine blk_far ?_ NB707_708.out _; (with_reducible repeat (first | refine blk_drewN ?_ _ | refine blk_drew ?_ | refine blk_alloc ?_ _)); exact BK707.out⟩, ⟨by (with_reducible repeat (first | refine blk_drewN ?_ _ | refine blk_drew ?_ | refine blk_alloc ?_ _)); refine blk_put (cs := #[.int .i64 (wrap64 (bt a0 0)), u709001, u709002]) ?_ 1 _ rfl; (with_reducible repeat (first | refine blk_drewN ?_ _ | refine blk_drew ?_ | refine blk_alloc ?_ _)); exact BK708.out⟩, ⟨by repeat (first | (with_reducible first | exact HB.out | apply below_alloc | apply pw_below_drewN | apply below_drew1 | refine below_set ?_ GE707.out | refine below_set ?_ GE708.out) | exact HB.out)⟩⟩
            ·rw [if_neg c20] at H
             exact absurd H (by simp)
           ·rw [if_neg c19] at H
            have c19b0 : decide (x20_2 < 10) = false := decide_eq_false c19
            clear c19
            by_cases c26 : x709002_2.length < 8796093022208
            ·rw [if_pos c26] at H
             have LMc26 := Aside0.mk c26
             clear c26
             obtain ⟨y712, hy712⟩ : ∃ y_ : List ByteArray, y_ = (x709002_2 ++ [a0.extract ((ji15) : Int).toNat ((wrap64 (1 + (wrap64 ((wrap64 (x20_2 + 1)) * 4)))) : Int).toNat]) := ⟨_, rfl⟩
             replace H : (impl_ReadSig.l0 k2 a0 (wrap64 (x20_2 + 1)) (wrap64 (bt a0 0)) x709001_2 y712) = some (r1, r2, r3, r4) := by first | (rw [hy712]; with_reducible exact H) | (have H2_ := (Option.bind_some _ _).symm.trans H; rw [hy712]; with_reducible exact H2_) | (have H2_ := (Option.bind_some _ _).symm.trans H; with_reducible exact H2_) | with_reducible exact H | (rw [hy712]; exact H) | exact H
             have Ny712 := Aside0.mk hy712
             clear hy712
             have H' := Aside0.mk H
             clear H
             have hnb27 := NB708_707.out
             have hnc27 := NB707_708.out
             have hcz28_0 : wr.cell? ⟨gb708, 0, none⟩ = some (.int .i64 (wrap64 (bt a0 0))) := (blk_cell BK708.out 0).trans rfl
             have hcz28_1 : wr.cell? ⟨gb708, 1, none⟩ = some (u709001) := (blk_cell BK708.out 1).trans rfl
             have hcz28_2 : wr.cell? ⟨gb708, 2, none⟩ = some (u709002) := (blk_cell BK708.out 2).trans rfl
             have hfz28_0 := blk_frozen BK708.out 0
             have hfz28_1 := blk_frozen BK708.out 1
             have hfz28_2 := blk_frozen BK708.out 2
             go_wp2_with (first | ((with_reducible refine gate_builtin (b := .append) (xs := #[.tmp 41, .tmp 43]) rfl ?_); at_builtin; refine Kd.R_append Kd.string (w0 := w) w.heap.size rfl (.tmp 41) (.tmp 43) 34 9 (.string ⟨#[]⟩) 16 rfl Try.underlying34 info9 rfl (by decide) (by omega) u709002 x709002_2 (a0.extract ((ji15) : Int).toNat ((wrap64 (1 + (wrap64 ((wrap64 (x20_2 + 1)) * 4)))) : Int).toNat) [.string (a0.extract ((ji15) : Int).toNat ((wrap64 (1 + (wrap64 ((wrap64 (x20_2 + 1)) * 4)))) : Int).toNat)] (fun k_ => some k_ ≠ (u709001 : Value).ownBlock) (fun _ => False) rfl rfl ?aP (fun _ hk => hk.elim) ?aF ?aO ?aB ?aS ?aL ?_; (case aP => exact rfl); (case aB => exact (by repeat (first | (with_reducible first | exact HB.out | apply below_alloc | apply pw_below_drewN | apply below_drew1 | refine below_set ?_ GE707.out | refine below_set ?_ GE708.out) | exact HB.out))); (case aF => exact (fun k_ hk => Kd.fresh' (Kd.R_lt (by (with_reducible repeat (first | apply Kd.R_alloc | apply Kd.R_drewN | apply Kd.R_drew)); exact HO_709001.out)) k_ hk)); (case aO => exact (by (with_reducible repeat (first | apply Kd.R_alloc | apply Kd.R_drewN | apply Kd.R_drew)); exact HO_709002.out)); (case aS => exact (below_size (by repeat (first | (with_reducible first | exact HB.out | apply below_alloc | apply pw_below_drewN | apply below_drew1 | refine below_set ?_ GE707.out | refine below_set ?_ GE708.out) | exact HB.out)))); (case aL => have := LMc26.out; omega); intro v713 w29 ho hb hg hat; rw [← Ny712.out] at ho; have n0_ := Aside0.mk (Kd.R_after (ok := (fun _ => True)) (by (with_reducible repeat (first | apply Kd.R_alloc | apply Kd.R_drewN | apply Kd.R_drew)); exact Kd.R_mono HO_709001.out (fun _ hk => ⟨trivial, hk⟩)) hg hat); have n1_ := Aside0.mk (blk_grown (g := gb707) (o := .cells #[.int .i64 0, .slice none 0 0, .slice none 0 0] 41 (0, 0)) (by (with_reducible repeat (first | refine blk_drewN ?_ _ | refine blk_drew ?_ | refine blk_alloc ?_ _)); exact BK707.out) hg (Kd.R_ne HO_709002.out BK707.out (by decide))); have n2_ := Aside0.mk (blk_grown (g := gb708) (o := .cells #[.int .i64 (wrap64 (bt a0 0)), u709001, u709002] 41 (0, 0)) (by (with_reducible repeat (first | refine blk_drewN ?_ _ | refine blk_drew ?_ | refine blk_alloc ?_ _)); exact BK708.out) hg (Kd.R_ne HO_709002.out BK708.out (by decide))); have n3_ := Aside0.mk (hb); have n4_ := Aside0.mk (ho); clear HO_709001; clear BK707; clear BK708; clear HB; clear HO_709002; have HO_709001 := n0_; have BK707 := n1_; have BK708 := n2_; have HB := n3_; have HO714 := n4_; clear n0_ n1_ n2_ n3_ n4_; clear ho hb hg hat; obtain ⟨Ao30, co30, eo30⟩ := Kd.R_slice HO714.out; subst eo30; have hcz31_0 : w29.cell? ⟨gb708, 0, none⟩ = some (.int .i64 (wrap64 (bt a0 0))) := (blk_cell BK708.out 0).trans rfl; have hcz31_1 : w29.cell? ⟨gb708, 1, none⟩ = some (u709001) := (blk_cell BK708.out 1).trans rfl; have hcz31_2 : w29.cell? ⟨gb708, 2, none⟩ = some (u709002) := (blk_cell BK708.out 2).trans rfl; have hfz31_0 := blk_frozen BK708.out 0; have hfz31_1 := blk_frozen BK708.out 1; have hfz31_2 := blk_frozen BK708.out 2))
             go_roundg k2
             case measure => have := HJ1.out; have := HK2.out; omega
             case rel => exact ⟨(wrap64 (x20_2 + 1)), (x709001_2), (y712), (u709001), (.slice Ao30 y712.length co30), (by first | rfl | (simp; done) | (simp [*]; done)), H', ⟨by have := HJ1.out; have := HK2.out; omega⟩, ⟨by (with_reducible repeat (first | apply Kd.R_alloc | apply Kd.R_drewN | apply Kd.R_drew)); exact Kd.R_mono (Kd.R_far (p := ⟨gb708, 2, none⟩) (Kd.R_types HO_709001.out BK708.out (by decide)) (fun _ hk => hk.2) (.slice Ao30 y712.length co30)) (fun _ hk => hk.1.2)⟩, ⟨by (with_reducible repeat (first | apply Kd.R_alloc | apply Kd.R_drewN | apply Kd.R_drew)); exact Kd.R_mono (Kd.R_far (p := ⟨gb708, 2, none⟩) (Kd.R_types HO714.out BK708.out (by decide)) (fun _ hk => hk.2) (.slice Ao30 y712.length co30)) (fun _ hk => hk.1)⟩, ⟨by (with_reducible repeat (first | refine blk_drewN ?_ _ | refine blk_drew ?_ | refine blk_alloc ?_ _)); refine blk_far ?_ NB707_708.out _; (with_reducible repeat (first | refine blk_drewN ?_ _ | refine blk_drew ?_ | refine blk_alloc ?_ _)); exact BK707.out⟩, ⟨by (with_reducible repeat (first | refine blk_drewN ?_ _ | refine blk_drew ?_ | refine blk_alloc ?_ _)); refine blk_put (cs := #[.int .i64 (wrap64 (bt a0 0)), u709001, u709002]) ?_ 2 _ rfl; (with_reducible repeat (first | refine blk_drewN ?_ _ | refine blk_drew ?_ | refine blk_alloc ?_ _)); exact BK708.out⟩, ⟨by repeat (first | (with_reducible first | exact HB.out | apply below_alloc | apply pw_below_drewN | apply below_drew1 | refine below_set ?_ GE707.out | refine below_set ?_ GE708.out) | exact HB.out)⟩⟩
            ·rw [if_neg c26] at H
             exact absurd H (by simp)
          ·rw [if_neg c18] at H
           exact absurd H (by simp)
         ·rw [if_neg c17] at H
          exact absurd H (by simp)
        ·rw [if_neg c16] at H
         exact absurd H (by simp)
       ·rw [if_neg c14] at H
        have c14b0 : decide (x20_2 < 12) = false := decide_eq_false c14
        clear c14
        simp only [Option.some.injEq, Prod.mk.injEq] at H
        obtain ⟨rfl, rfl, rfl, rfl⟩ := H
        have hnb32 := NB708_707.out
        have hnc32 := NB707_708.out
        have hcz33_0 : wr.cell? ⟨gb708, 0, none⟩ = some (.int .i64 (wrap64 (bt a0 0))) := (blk_cell BK708.out 0).trans rfl
        have hcz33_1 : wr.cell? ⟨gb708, 1, none⟩ = some (u709001) := (blk_cell BK708.out 1).trans rfl
        have hcz33_2 : wr.cell? ⟨gb708, 2, none⟩ = some (u709002) := (blk_cell BK708.out 2).trans rfl
        have hfz33_0 := blk_frozen BK708.out 0
        have hfz33_1 := blk_frozen BK708.out 1
        have hfz33_2 := blk_frozen BK708.out 2
        have hcz34_0 : wr.cell? ⟨gb707, 0, none⟩ = some (.int .i64 0) := (blk_cell BK707.out 0).trans rfl
        have hcz34_1 : wr.cell? ⟨gb707, 1, none⟩ = some (.slice none 0 0) := (blk_cell BK707.out 1).trans rfl
        have hcz34_2 : wr.cell? ⟨gb707, 2, none⟩ = some (.slice none 0 0) := (blk_cell BK707.out 2).trans rfl
        have hfz34_0 := blk_frozen BK707.out 0
        have hfz34_1 := blk_frozen BK707.out 1
        have hfz34_2 := blk_frozen BK707.out 2
        obtain ⟨Ao35, co35, eo35⟩ := Kd.R_slice HO_709001.out
        subst eo35
        obtain ⟨Ao36, co36, eo36⟩ := Kd.R_slice HO_709002.out
        subst eo36
        go_wp2
        refine bodyPost_ret (results_ct rfl _ _ gb707 41 #[.int .i64 (wrap64 (bt a0 0)), .slice Ao35 x709001_2.length co35, .slice Ao36 x709002_2.length co36] (0, 0) _ rfl (by (with_reducible repeat (first | refine blk_drewN ?_ _ | refine blk_drew ?_ | refine blk_alloc ?_ _)); refine blk_put (cs := #[.int .i64 (wrap64 (bt a0 0)), .slice Ao35 x709001_2.length co35, .slice none 0 0]) ?_ 2 _ rfl; (with_reducible repeat (first | refine blk_drewN ?_ _ | refine blk_drew ?_ | refine blk_alloc ?_ _)); refine blk_put (cs := #[.int .i64 (wrap64 (bt a0 0)), .slice none 0 0, .slice none 0 0]) ?_ 1 _ rfl; (with_reducible repeat (first | refine blk_drewN ?_ _ | refine blk_drew ?_ | refine blk_alloc ?_ _)); refine blk_put (cs := #[.int .i64 0, .slice none 0 0, .slice none 0 0]) ?_ 0 _ rfl; (with_reducible repeat (first | refine blk_drewN ?_ _ | refine blk_drew ?_ | refine blk_alloc ?_ _)); exact BK707.out) Try.underlying41 rfl (by kernel_rfl)) rfl ?_
        exact ⟨_, _, by first | rfl | (simp [errW_none, errW_some] <;> rfl) | (simp [*, errW_none, errW_some] <;> rfl), by (with_reducible repeat (first | apply Kd.R_alloc | apply Kd.R_drewN | apply Kd.R_drew)); exact Kd.R_mono (Kd.R_far (p := ⟨gb707, 2, none⟩) (Kd.R_far (p := ⟨gb707, 1, none⟩) (Kd.R_far (p := ⟨gb707, 0, none⟩) (Kd.R_types HO_709001.out BK707.out (by decide)) (fun _ hk => hk.2) (.int .i64 (wrap64 (bt a0 0)))) (fun _ hk => hk.2) (.slice Ao35 x709001_2.length co35)) (fun _ hk => hk.2) (.slice Ao36 x709002_2.length co36)) (fun _ hk => hk.1), by (with_reducible repeat (first | apply Kd.R_alloc | apply Kd.R_drewN | apply Kd.R_drew)); exact Kd.R_mono (Kd.R_far (p := ⟨gb707, 2, none⟩) (Kd.R_far (p := ⟨gb707, 1, none⟩) (Kd.R_far (p := ⟨gb707, 0, none⟩) (Kd.R_types HO_709002.out BK707.out (by decide)) (fun _ hk => hk.2) (.int .i64 (wrap64 (bt a0 0)))) (fun _ hk => hk.2) (.slice Ao35 x709001_2.length co35)) (fun _ hk => hk.2) (.slice Ao36 x709002_2.length co36)) (fun _ hk => hk.1), by repeat (first | (with_reducible first | exact HB.out | apply below_alloc | apply pw_below_drewN | apply below_drew1 | refine below_set ?_ GE707.out | refine below_set ?_ GE708.out) | exact HB.out)⟩
    ·rw [if_neg c9] at H
     exact absurd H (by simp)

end Go.Proofs.Ytcpgpjggnghpdaa.P
