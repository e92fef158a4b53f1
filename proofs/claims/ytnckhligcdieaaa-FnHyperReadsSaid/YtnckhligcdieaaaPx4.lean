-- printed texts of this session, regrouped
import Derived.Test.YtnckhligcdieaaaMWA
import Derived.Test.YtnckhligcdieaaaMW7
import Derived.Test.YtnckhligcdieaaaMW8
import Derived.Test.YtnckhligcdieaaaMW6
import Derived.Test.YtnckhligcdieaaaPx0
import Derived.Test.YtnckhligcdieaaaPx2
import Derived.Test.YtnckhligcdieaaaPx5
namespace Go.Proofs.Ytnckhligcdieaaa.P
open Go.RowKit Go.Proofs.YtnckhligcdieaaaW.PrintWords Go.Proofs.YtnckhligcdieaaaW.PrintLast Go.Proofs.YtnckhligcdieaaaW.PrintMore
attribute [local go_sem] max2_int min2_int max_two min_two max_three min_three max_four min_four   -- for this text's walks alone
set_option linter.unusedVariables false
set_option linter.unusedSimpArgs false
set_option maxHeartbeats 8000000
set_option maxRecDepth 100000

/-! ### spec_ReadSig: function 46 -/
mutual
def spec_ReadSig.j0 : Nat → ByteArray → Bool → Option (Int × List ByteArray × List ByteArray × Bool)
 | 0, _, _ => none
 | k + 1, x0, x15 => if x15 = true then (some (0, ([] : List ByteArray), ([] : List ByteArray), false)) else (if 0 < (x0.size : Int) then (spec_ReadSig.l0 k x0 0 (wrap64 (bt x0 0)) ([] : List ByteArray) ([] : List ByteArray)) else (none))
def spec_ReadSig.l0 : Nat → ByteArray → Int → Int → List ByteArray → List ByteArray → Option (Int × List ByteArray × List ByteArray × Bool)
 | 0, _, _, _, _, _ => none
 | k + 1, x0, x5, x585000, x585001, x585002 => if x5 < 12 then (if 0 ≤ (wrap64 (1 + (wrap64 (x5 * 4)))) then (if (wrap64 (1 + (wrap64 (x5 * 4)))) ≤ (wrap64 (1 + (wrap64 ((wrap64 (x5 + 1)) * 4)))) then (if (wrap64 (1 + (wrap64 ((wrap64 (x5 + 1)) * 4)))) ≤ (x0.size : Int) then (if x5 < 10 then (if x585001.length < 8796093022208 then (spec_ReadSig.l0 k x0 (wrap64 (x5 + 1)) x585000 (x585001 ++ [x0.extract ((wrap64 (1 + (wrap64 (x5 * 4)))) : Int).toNat ((wrap64 (1 + (wrap64 ((wrap64 (x5 + 1)) * 4)))) : Int).toNat]) x585002) else (none)) else (if x585002.length < 8796093022208 then (spec_ReadSig.l0 k x0 (wrap64 (x5 + 1)) x585000 x585001 (x585002 ++ [x0.extract ((wrap64 (1 + (wrap64 (x5 * 4)))) : Int).toNat ((wrap64 (1 + (wrap64 ((wrap64 (x5 + 1)) * 4)))) : Int).toNat])) else (none))) else (none)) else (none)) else (none)) else (some (x585000, x585001, x585002, true))
end
def spec_ReadSig.f (k : Nat) (a0 : ByteArray) : Option (Int × List ByteArray × List ByteArray × Bool) := if (a0.size : Int) = 49 then (if 0 < (a0.size : Int) then (spec_ReadSig.j0 k a0 (decide ((wrap64 (bt a0 0)) ≥ 4))) else (none)) else (spec_ReadSig.j0 k a0 true)
theorem spec_ReadSig.mono_l : ∀ k, (∀ y0 y1, LeO (spec_ReadSig.j0 k y0 y1) (spec_ReadSig.j0 (k + 1) y0 y1)) ∧ (∀ y0 y1 y2 y3 y4, LeO (spec_ReadSig.l0 k y0 y1 y2 y3 y4) (spec_ReadSig.l0 (k + 1) y0 y1 y2 y3 y4))
 | 0 => ⟨fun _ _ r h => by simp [spec_ReadSig.j0] at h, fun _ _ _ _ _ r h => by simp [spec_ReadSig.l0] at h⟩
 | k + 1 => by
  obtain ⟨ih0, ih1⟩ := spec_ReadSig.mono_l k
  refine ⟨?_, ?_⟩ <;> (intros; (first | unfold spec_ReadSig.j0 | unfold spec_ReadSig.l0); exact o2_ ih0 ih1)
theorem spec_ReadSig.mono : ∀ a0 k, LeO (spec_ReadSig.f k a0) (spec_ReadSig.f (k + 1) a0) := by
 intro a0 k
 obtain ⟨ih0, ih1⟩ := spec_ReadSig.mono_l k
 unfold spec_ReadSig.f
 exact o2_ ih0 ih1
theorem spec_ReadSig.calls (k : Nat) (a0 : ByteArray) (r1 : Int) (r2 : List ByteArray) (r3 : List ByteArray) (r4 : Bool) (w : World) (h : spec_ReadSig.f k a0 = some (r1, r2, r3, r4)) :
  Calls Try.prog 46 #[.string a0] w fun e w' => ∃ v1_ v2_ : Value, e = .returned (.tuple #[.agg #[.int .i64 r1, v1_, v2_], .bool r4]) ∧ Kd.R Kd.string 9 w' w.heap.size (fun k_ => some k_ ≠ (v2_ : Value).ownBlock) v1_ r2 ∧ Kd.R Kd.string 9 w' w.heap.size (fun k_ => some k_ ≠ (v1_ : Value).ownBlock) v2_ r3 ∧ Below w.heap.size w w' := by
 have hu37 := Try.underlying37
 have HB := Aside0.mk (Below.refl w.heap.size w)
 delta spec_ReadSig.f at h
 have H := h
 clear h
 have HC2 := Aside0.mk H
 clear H
 go_enter Try.func46, Try.ntmps46
 go_upto_region 1 with (first | ((with_reducible refine gate_dst (N := 2) rfl ?_); refine box_event ?hg (N := 2) ?hd (cs := #[.int .i64 0, .slice none 0 0, .slice none 0 0]) (t := 37) ?hr ?_; (case hd => rfl); (case hg => rfl); (case hr => first | (go_simp; done) | (go_simp; rfl)); intro gb583 hg w3 hbox hb; have n_ := b_ (below_step (hB_) hb) <| b_ (hbox) <| b_ (by rw [hg]; exact (below_size (hB_)) : w.heap.size ≤ gb583) <| c_ (by rw [hg]; exact (below_size (hB_)) : w.heap.size ≤ gb583); clear HB; obtain ⟨HB, BK583, GW583, GE583⟩ := n_; clear hb hbox hg))
 (try simp only [Act.put, List.setIfInBounds_toArray, List.set_cons_zero, List.set_cons_succ])
 go_cut [15] (fun v15 wc => ∃ (kq : Nat) (x15_1 : Bool), v15 = .bool x15_1 ∧ Aside0 (spec_ReadSig.j0 kq a0 x15_1 = some (r1, r2, r3, r4)) ∧ Aside0 (kq ≤ k) ∧ Aside0 (wc.heap[gb583]? = some (.cells #[.int .i64 0, (.slice none 0 0), (.slice none 0 0)] 37 (0, 0))) ∧ Aside0 (Below w.heap.size w wc))
 case first =>
  have H := HC2.out
  clear HC2
  by_cases c4 : (a0.size : Int) = 49
  ·rw [if_pos c4] at H
   have c4b0 : ((a0.size : Int) == 49) = true := beq_iff_eq.mpr c4
   have c4b1 : ((a0.size : Int) != 49) = false := bne_eq_false_iff_eq.mpr c4
   clear c4
   (first | rw [c4b0] | (simp only [i64_w, i32_w]; rw [c4b0]) | skip)
   obtain ⟨c5, H⟩ := iN_ H
   have c5b0 := decide_eq_true c5
   have c5b1 : decide (0 < a0.size) = true := decide_eq_true (by omega)
   clear c5
   have H' := Aside0.mk H
   clear H
   have p6 : 0 ≤ (0 : Int) := (by omega)
   have q6 : 0 < a0.size := (by have : (0 : Int) < (a0.size : Int) := of_decide_eq_true (by first | (with_reducible assumption) | assumption); omega)
   have hx6 : ∀ h : 0 < a0.size, ((a0[0]'h).toNat : Int) = bt a0 0 := bt_at a0 0
   clear p6
   have qi6 : (0 < (a0.size : Int)) = True := eq_true (of_decide_eq_true (by first | (with_reducible assumption) | assumption))
   replace q6 := eq_true q6
   go_wp2
   go_meet
   case rel => exact ⟨_, (decide ((wrap64 (bt a0 0)) ≥ 4)), (by first | rfl | (simp; done) | (simp [*]; done)), H', ⟨by first | omega | exact Nat.le_refl _⟩, ⟨by refine kK_ ?_; exact BK583.out⟩, ⟨hS_ GE583.out⟩⟩
  rw [if_neg c4] at H
  have c4b0 : ((a0.size : Int) == 49) = false := beq_eq_false_iff_ne.mpr c4
  have c4b1 : ((a0.size : Int) != 49) = true := bne_iff_ne.mpr c4
  (first | rw [c4b0] | (simp only [i64_w, i32_w]; rw [c4b0]) | skip)
  have H' := Aside0.mk H
  clear H
  go_wp2
  go_meet
  case rel => exact ⟨_, (true), (by first | rfl | (simp; done) | (simp [*]; done)), H', ⟨by first | omega | exact Nat.le_refl _⟩, ⟨by refine kK_ ?_; exact BK583.out⟩, ⟨hS_ GE583.out⟩⟩
 case rest =>
  clear HC2
  obtain ⟨kq, x15_1, rfl, HA, HJ1, BK583, HB⟩ := hcut
  cases kq with
  | zero => exact absurd HA.out (by simp [spec_ReadSig.j0])
  | succ kj1 =>
   have H := HA.out
   clear HA
   simp only [spec_ReadSig.j0] at H
   by_cases c7 : x15_1 = true
   ·subst c7
    replace H := iT_ H
    simp only [Option.some.injEq, Prod.mk.injEq] at H
    obtain ⟨rfl, rfl, rfl, rfl⟩ := H
    have hcz8_0 : wc.cell? ⟨gb583, 0, none⟩ = some (.int .i64 0) := (blk_cell BK583.out 0).trans rfl
    have hcz8_1 : wc.cell? ⟨gb583, 1, none⟩ = some (.slice none 0 0) := (blk_cell BK583.out 1).trans rfl
    have hcz8_2 : wc.cell? ⟨gb583, 2, none⟩ = some (.slice none 0 0) := (blk_cell BK583.out 2).trans rfl
    have hfz8_0 := blk_frozen BK583.out 0
    have hfz8_1 := blk_frozen BK583.out 1
    have hfz8_2 := blk_frozen BK583.out 2
    go_wp2
    refine bodyPost_ret (results_ct rfl _ _ gb583 37 #[.int .i64 0, .slice none 0 0, .slice none 0 0] (0, 0) _ rfl (by refine kK_ ?_; refine blk_put (cs := #[.int .i64 0, .slice none 0 0, .slice none 0 0]) ?_ 2 _ rfl; refine kK_ ?_; refine blk_put (cs := #[.int .i64 0, .slice none 0 0, .slice none 0 0]) ?_ 1 _ rfl; refine kK_ ?_; refine blk_put (cs := #[.int .i64 0, .slice none 0 0, .slice none 0 0]) ?_ 0 _ rfl; exact rK_ BK583.out) Try.underlying37 rfl (by kernel_rfl)) rfl ?_
    exact ⟨_, _, by first | rfl | (simp [errW_none, errW_some] <;> rfl) | (simp [*, errW_none, errW_some] <;> rfl), by first | exact Kd.R_nil _ _ _ _ _ | exact Kd.N_nil _ _ _ _ _ | exact Kd.V_nil _ _ _ _ _ | exact Kd.Q_nil _ _ _ _ _ | exact Kd.S_nil _ _ _ _ _, by first | exact Kd.R_nil _ _ _ _ _ | exact Kd.N_nil _ _ _ _ _ | exact Kd.V_nil _ _ _ _ _ | exact Kd.Q_nil _ _ _ _ _ | exact Kd.S_nil _ _ _ _ _, hS_ GE583.out⟩
   ·replace c7 := Bool.eq_false_iff.mpr c7
    subst c7
    replace H := iF_ H
    obtain ⟨c9, H⟩ := iN_ H
    have c9b0 := decide_eq_true c9
    have c9b1 : decide (0 < a0.size) = true := decide_eq_true (by omega)
    clear c9
    have H' := Aside0.mk H
    clear H
    have p10 : 0 ≤ (0 : Int) := (by omega)
    have q10 : 0 < a0.size := (by have : (0 : Int) < (a0.size : Int) := of_decide_eq_true (by first | (with_reducible assumption) | assumption); omega)
    have hx10 : ∀ h : 0 < a0.size, ((a0[0]'h).toNat : Int) = bt a0 0 := bt_at a0 0
    clear p10
    have qi10 : (0 < (a0.size : Int)) = True := eq_true (of_decide_eq_true (by first | (with_reducible assumption) | assumption))
    replace q10 := eq_true q10
    go_wp2_with (first | ((with_reducible refine gate_dst (N := 4) rfl ?_); refine box_event ?hg (N := 4) ?hd (cs := #[.int .i64 0, .slice none 0 0, .slice none 0 0]) (t := 37) ?hr ?_; (case hd => rfl); (case hg => rfl); (case hr => first | (go_simp; done) | (go_simp; rfl)); intro gb584 hg w11 hbox hb; have n_ := b_ (blk_below (g := gb583) (o := .cells #[.int .i64 0, .slice none 0 0, .slice none 0 0] 37 (0, 0)) (rK_ BK583.out) hb) <| b_ (below_step (hS_ GE583.out) hb) <| b_ (hbox) <| b_ (by rw [hg]; exact (below_size (hS_ GE583.out)) : w.heap.size ≤ gb584) <| b_ (by rw [hg]; exact (below_size (hS_ GE583.out)) : w.heap.size ≤ gb584) <| b_ (by rw [hg]; exact Nat.ne_of_lt (blk_lt (g := gb583) (o := .cells #[.int .i64 0, .slice none 0 0, .slice none 0 0] 37 (0, 0)) (rK_ BK583.out)) : gb583 ≠ gb584) <| c_ (by rw [hg]; exact Nat.ne_of_gt (blk_lt (g := gb583) (o := .cells #[.int .i64 0, .slice none 0 0, .slice none 0 0] 37 (0, 0)) (rK_ BK583.out)) : gb584 ≠ gb583); clear BK583 HB; obtain ⟨BK583, HB, BK584, GW584, GE584, NB583_584, NB584_583⟩ := n_; clear hb hbox hg; have hnb12 := NB584_583.out; have hnc12 := NB583_584.out; have hcz13_0 : w11.cell? ⟨gb584, 0, none⟩ = some (.int .i64 0) := (blk_cell BK584.out 0).trans rfl; have hcz13_1 : w11.cell? ⟨gb584, 1, none⟩ = some (.slice none 0 0) := (blk_cell BK584.out 1).trans rfl; have hcz13_2 : w11.cell? ⟨gb584, 2, none⟩ = some (.slice none 0 0) := (blk_cell BK584.out 2).trans rfl; have hfz13_0 := blk_frozen BK584.out 0; have hfz13_1 := blk_frozen BK584.out 1; have hfz13_2 := blk_frozen BK584.out 2))
    go_loopg [5] kj1 (fun kq v5 w' => ∃ (x5_2 : Int) (x585001_2 : List ByteArray) (x585002_2 : List ByteArray) (u585001 : Value) (u585002 : Value), v5 = .int .i64 x5_2 ∧ Aside0 (spec_ReadSig.l0 kq a0 x5_2 (wrap64 (bt a0 0)) x585001_2 x585002_2 = some (r1, r2, r3, r4)) ∧ Aside0 (kq ≤ kj1) ∧ Aside0 (Kd.R Kd.string 9 w' w.heap.size (fun k_ => some k_ ≠ (u585002 : Value).ownBlock) u585001 x585001_2) ∧ Aside0 (Kd.R Kd.string 9 w' w.heap.size (fun k_ => some k_ ≠ (u585001 : Value).ownBlock) u585002 x585002_2) ∧ Aside0 (w'.heap[gb583]? = some (.cells #[.int .i64 0, (.slice none 0 0), (.slice none 0 0)] 37 (0, 0))) ∧ Aside0 (w'.heap[gb584]? = some (.cells #[.int .i64 (wrap64 (bt a0 0)), u585001, u585002] 37 (0, 0))) ∧ Aside0 (Below w.heap.size w w'))
    case atStart => exact ⟨(0), (([] : List ByteArray)), (([] : List ByteArray)), (.slice none 0 0), (.slice none 0 0), (by first | rfl | (simp; done) | (simp [*]; done)), H', ⟨Nat.le_refl _⟩, ⟨by first | exact Kd.R_nil _ _ _ _ _ | exact Kd.N_nil _ _ _ _ _ | exact Kd.V_nil _ _ _ _ _ | exact Kd.Q_nil _ _ _ _ _ | exact Kd.S_nil _ _ _ _ _⟩, ⟨by first | exact Kd.R_nil _ _ _ _ _ | exact Kd.N_nil _ _ _ _ _ | exact Kd.V_nil _ _ _ _ _ | exact Kd.Q_nil _ _ _ _ _ | exact Kd.S_nil _ _ _ _ _⟩, ⟨by refine kK_ ?_; refine blk_far ?_ NB583_584.out _; refine kK_ ?_; refine blk_far ?_ NB583_584.out _; refine kK_ ?_; refine blk_far ?_ NB583_584.out _; refine kK_ ?_; exact BK583.out⟩, ⟨by refine kK_ ?_; refine blk_put (cs := #[.int .i64 (wrap64 (bt a0 0)), .slice none 0 0, .slice none 0 0]) ?_ 2 _ rfl; refine kK_ ?_; refine blk_put (cs := #[.int .i64 (wrap64 (bt a0 0)), .slice none 0 0, .slice none 0 0]) ?_ 1 _ rfl; refine kK_ ?_; refine blk_put (cs := #[.int .i64 0, .slice none 0 0, .slice none 0 0]) ?_ 0 _ rfl; refine kK_ ?_; exact BK584.out⟩, ⟨(u4_ GE583.out GE584.out)⟩⟩
    case round =>
     clear H'
     obtain ⟨x5_2, x585001_2, x585002_2, u585001, u585002, rfl, HA, HK2, HO_585001, HO_585002, BK583, BK584, HB⟩ := hrel
     cases gk with
     | zero => exact absurd HA.out (by simp [spec_ReadSig.l0])
     | succ k2 =>
      have H := HA.out
      clear HA
      simp only [spec_ReadSig.l0] at H
      by_cases c14 : x5_2 < 12
      rotate_left
      ·rw [if_neg c14] at H
       have c14b0 := decide_eq_false c14
       clear c14
       simp only [Option.some.injEq, Prod.mk.injEq] at H
       obtain ⟨rfl, rfl, rfl, rfl⟩ := H
       have hnb32 := NB584_583.out
       have hnc32 := NB583_584.out
       have hcz33_0 : wr.cell? ⟨gb584, 0, none⟩ = some (.int .i64 (wrap64 (bt a0 0))) := (blk_cell BK584.out 0).trans rfl
       have hcz33_1 : wr.cell? ⟨gb584, 1, none⟩ = some (u585001) := (blk_cell BK584.out 1).trans rfl
       have hcz33_2 : wr.cell? ⟨gb584, 2, none⟩ = some (u585002) := (blk_cell BK584.out 2).trans rfl
       have hfz33_0 := blk_frozen BK584.out 0
       have hfz33_1 := blk_frozen BK584.out 1
       have hfz33_2 := blk_frozen BK584.out 2
       have hcz34_0 : wr.cell? ⟨gb583, 0, none⟩ = some (.int .i64 0) := (blk_cell BK583.out 0).trans rfl
       have hcz34_1 : wr.cell? ⟨gb583, 1, none⟩ = some (.slice none 0 0) := (blk_cell BK583.out 1).trans rfl
       have hcz34_2 : wr.cell? ⟨gb583, 2, none⟩ = some (.slice none 0 0) := (blk_cell BK583.out 2).trans rfl
       have hfz34_0 := blk_frozen BK583.out 0
       have hfz34_1 := blk_frozen BK583.out 1
       have hfz34_2 := blk_frozen BK583.out 2
       obtain ⟨Ao35, co35, eo35⟩ := Kd.R_slice HO_585001.out
       subst eo35
       obtain ⟨Ao36, co36, eo36⟩ := Kd.R_slice HO_585002.out
       subst eo36
       go_wp2
       refine bodyPost_ret (results_ct rfl _ _ gb583 37 #[.int .i64 (wrap64 (bt a0 0)), .slice Ao35 x585001_2.length co35, .slice Ao36 x585002_2.length co36] (0, 0) _ rfl (by refine kK_ ?_; refine blk_put (cs := #[.int .i64 (wrap64 (bt a0 0)), .slice Ao35 x585001_2.length co35, .slice none 0 0]) ?_ 2 _ rfl; refine kK_ ?_; refine blk_put (cs := #[.int .i64 (wrap64 (bt a0 0)), .slice none 0 0, .slice none 0 0]) ?_ 1 _ rfl; refine kK_ ?_; refine blk_put (cs := #[.int .i64 0, .slice none 0 0, .slice none 0 0]) ?_ 0 _ rfl; exact rK_ BK583.out) Try.underlying37 rfl (by kernel_rfl)) rfl ?_
       exact ⟨_, _, by first | rfl | (simp [errW_none, errW_some] <;> rfl) | (simp [*, errW_none, errW_some] <;> rfl), by refine kR_ ?_; exact Kd.R_mono (Kd.R_far (Kd.R_far (Kd.R_far (Kd.R_types HO_585001.out BK583.out (by decide)) (fun _ hk => hk.2) (.int .i64 (wrap64 (bt a0 0)))) (fun _ hk => hk.2) _) (fun _ hk => hk.2) _) (fun _ hk => hk.1), by refine kR_ ?_; exact Kd.R_mono (Kd.R_far (Kd.R_far (Kd.R_far (Kd.R_types HO_585002.out BK583.out (by decide)) (fun _ hk => hk.2) (.int .i64 (wrap64 (bt a0 0)))) (fun _ hk => hk.2) _) (fun _ hk => hk.2) _) (fun _ hk => hk.1), (u4_ GE583.out GE584.out)⟩
      rw [if_pos c14] at H
      have c14b0 := decide_eq_true c14
      clear c14
      obtain ⟨ji15, hji15⟩ : ∃ j_ : Int, (wrap64 (1 + (wrap64 (x5_2 * 4)))) = j_ := ⟨_, rfl⟩
      first | rw [hji15] at H | simp only [hji15] at H
      have hji15w : (IntKind.i64.wrap (1 + (wrap64 (x5_2 * 4)))) = ji15 := (i64_w _).trans hji15
      obtain ⟨c16, H⟩ := iN_ H
      have c16b0 := eq_true c16
      have c16b1 := decide_eq_true c16
      clear c16
      obtain ⟨c17, H⟩ := iN_ H
      have c17b0 := eq_true c17
      have c17b1 := decide_eq_true c17
      obtain ⟨c18, H⟩ := iN_ H
      have c18b0 := eq_true c18
      have c18b1 := decide_eq_true c18
      by_cases c19 : x5_2 < 10
      ·rw [if_pos c19] at H
       have c19b0 := decide_eq_true c19
       clear c19
       obtain ⟨c20, H⟩ := iN_ H
       have LMc20 := Aside0.mk c20
       clear c20
       obtain ⟨y585, hy585⟩ : ∃ y_ : List ByteArray, y_ = (x585001_2 ++ [a0.extract ((ji15) : Int).toNat ((wrap64 (1 + (wrap64 ((wrap64 (x5_2 + 1)) * 4)))) : Int).toNat]) := ⟨_, rfl⟩
       first | replace H := yb_ hy585 H | rw [← hy585] at H
       have Ny585 := Aside0.mk hy585
       clear hy585
       have H' := Aside0.mk H
       clear H
       have hnb21 := NB584_583.out
       have hnc21 := NB583_584.out
       have hcz22_0 : wr.cell? ⟨gb584, 0, none⟩ = some (.int .i64 (wrap64 (bt a0 0))) := (blk_cell BK584.out 0).trans rfl
       have hcz22_1 : wr.cell? ⟨gb584, 1, none⟩ = some (u585001) := (blk_cell BK584.out 1).trans rfl
       have hcz22_2 : wr.cell? ⟨gb584, 2, none⟩ = some (u585002) := (blk_cell BK584.out 2).trans rfl
       have hfz22_0 := blk_frozen BK584.out 0
       have hfz22_1 := blk_frozen BK584.out 1
       have hfz22_2 := blk_frozen BK584.out 2
       go_wp2_with (first | ((with_reducible refine gate_builtin (b := .append) (xs := #[.tmp 37, .tmp 39]) rfl ?_); at_builtin; refine Kd.R_append Kd.string (w0 := w) w.heap.size rfl (.tmp 37) (.tmp 39) 35 9 (.string ⟨#[]⟩) 16 rfl Try.underlying35 info9 rfl (by decide) (by omega) u585001 x585001_2 (a0.extract ((ji15) : Int).toNat ((wrap64 (1 + (wrap64 ((wrap64 (x5_2 + 1)) * 4)))) : Int).toNat) [.string (a0.extract ((ji15) : Int).toNat ((wrap64 (1 + (wrap64 ((wrap64 (x5_2 + 1)) * 4)))) : Int).toNat)] (fun k_ => some k_ ≠ (u585002 : Value).ownBlock) (fun _ => False) rfl rfl ?aP (fun _ hk => hk.elim) ?aF ?aO ?aB ?aS ?aL ?_; (case aP => exact rfl); (case aB => exact ((u4_ GE583.out GE584.out))); (case aF => exact (fun k_ hk => Kd.fresh' (Kd.R_lt (rR_ HO_585002.out)) k_ hk)); (case aO => exact (rR_ HO_585001.out)); (case aS => exact (below_size ((u4_ GE583.out GE584.out)))); (case aL => have := LMc20.out; omega); intro v586 w23 ho hb hg hat; rw [← Ny585.out] at ho; have n_ := b_ (Kd.R_after (ok := (fun _ => True)) (by refine kR_ ?_; exact Kd.R_mono HO_585002.out (fun _ hk => ⟨trivial, hk⟩)) hg hat) <| b_ (blk_grown (g := gb583) (o := .cells #[.int .i64 0, .slice none 0 0, .slice none 0 0] 37 (0, 0)) (rK_ BK583.out) hg (Kd.R_ne HO_585001.out BK583.out (by decide))) <| b_ (blk_grown (g := gb584) (o := .cells #[.int .i64 (wrap64 (bt a0 0)), u585001, u585002] 37 (0, 0)) (rK_ BK584.out) hg (Kd.R_ne HO_585001.out BK584.out (by decide))) <| b_ (hb) <| c_ (ho); clear HO_585001 HO_585002 BK583 BK584 HB; obtain ⟨HO_585002, BK583, BK584, HB, HO587⟩ := n_; clear ho hb hg hat; obtain ⟨Ao24, co24, eo24⟩ := Kd.R_slice HO587.out; subst eo24; have hcz25_0 : w23.cell? ⟨gb584, 0, none⟩ = some (.int .i64 (wrap64 (bt a0 0))) := (blk_cell BK584.out 0).trans rfl; have hcz25_1 : w23.cell? ⟨gb584, 1, none⟩ = some (u585001) := (blk_cell BK584.out 1).trans rfl; have hcz25_2 : w23.cell? ⟨gb584, 2, none⟩ = some (u585002) := (blk_cell BK584.out 2).trans rfl; have hfz25_0 := blk_frozen BK584.out 0; have hfz25_1 := blk_frozen BK584.out 1; have hfz25_2 := blk_frozen BK584.out 2))
       go_roundg k2
       case measure => have := HJ1.out; have := HK2.out; omega
       case rel => exact ⟨(wrap64 (x5_2 + 1)), (y585), (x585002_2), (.slice Ao24 y585.length co24), (u585002), (by first | rfl | (simp; done) | (simp [*]; done)), H', ⟨by have := HJ1.out; have := HK2.out; omega⟩, ⟨by refine kR_ ?_; exact Kd.R_mono (Kd.R_far (Kd.R_types HO587.out BK584.out (by decide)) (fun _ hk => hk.2) _) (fun _ hk => hk.1)⟩, ⟨by refine kR_ ?_; exact Kd.R_mono (Kd.R_far (Kd.R_types HO_585002.out BK584.out (by decide)) (fun _ hk => hk.2) _) (fun _ hk => hk.1.2)⟩, ⟨by refine kK_ ?_; refine blk_far ?_ NB583_584.out _; refine kK_ ?_; exact BK583.out⟩, ⟨by refine kK_ ?_; refine blk_put (cs := #[.int .i64 (wrap64 (bt a0 0)), u585001, u585002]) ?_ 1 _ rfl; refine kK_ ?_; exact BK584.out⟩, ⟨(u4_ GE583.out GE584.out)⟩⟩
      rw [if_neg c19] at H
      have c19b0 := decide_eq_false c19
      clear c19
      obtain ⟨c26, H⟩ := iN_ H
      have LMc26 := Aside0.mk c26
      clear c26
      obtain ⟨y588, hy588⟩ : ∃ y_ : List ByteArray, y_ = (x585002_2 ++ [a0.extract ((ji15) : Int).toNat ((wrap64 (1 + (wrap64 ((wrap64 (x5_2 + 1)) * 4)))) : Int).toNat]) := ⟨_, rfl⟩
      first | replace H := yb_ hy588 H | rw [← hy588] at H
      have Ny588 := Aside0.mk hy588
      clear hy588
      have H' := Aside0.mk H
      clear H
      have hnb27 := NB584_583.out
      have hnc27 := NB583_584.out
      have hcz28_0 : wr.cell? ⟨gb584, 0, none⟩ = some (.int .i64 (wrap64 (bt a0 0))) := (blk_cell BK584.out 0).trans rfl
      have hcz28_1 : wr.cell? ⟨gb584, 1, none⟩ = some (u585001) := (blk_cell BK584.out 1).trans rfl
      have hcz28_2 : wr.cell? ⟨gb584, 2, none⟩ = some (u585002) := (blk_cell BK584.out 2).trans rfl
      have hfz28_0 := blk_frozen BK584.out 0
      have hfz28_1 := blk_frozen BK584.out 1
      have hfz28_2 := blk_frozen BK584.out 2
      go_wp2_with (first | ((with_reducible refine gate_builtin (b := .append) (xs := #[.tmp 43, .tmp 45]) rfl ?_); at_builtin; refine Kd.R_append Kd.string (w0 := w) w.heap.size rfl (.tmp 43) (.tmp 45) 35 9 (.string ⟨#[]⟩) 16 rfl Try.underlying35 info9 rfl (by decide) (by omega) u585002 x585002_2 (a0.extract ((ji15) : Int).toNat ((wrap64 (1 + (wrap64 ((wrap64 (x5_2 + 1)) * 4)))) : Int).toNat) [.string (a0.extract ((ji15) : Int).toNat ((wrap64 (1 + (wrap64 ((wrap64 (x5_2 + 1)) * 4)))) : Int).toNat)] (fun k_ => some k_ ≠ (u585001 : Value).ownBlock) (fun _ => False) rfl rfl ?aP (fun _ hk => hk.elim) ?aF ?aO ?aB ?aS ?aL ?_; (case aP => exact rfl); (case aB => exact ((u4_ GE583.out GE584.out))); (case aF => exact (fun k_ hk => Kd.fresh' (Kd.R_lt (rR_ HO_585001.out)) k_ hk)); (case aO => exact (rR_ HO_585002.out)); (case aS => exact (below_size ((u4_ GE583.out GE584.out)))); (case aL => have := LMc26.out; omega); intro v589 w29 ho hb hg hat; rw [← Ny588.out] at ho; have n_ := b_ (Kd.R_after (ok := (fun _ => True)) (by refine kR_ ?_; exact Kd.R_mono HO_585001.out (fun _ hk => ⟨trivial, hk⟩)) hg hat) <| b_ (blk_grown (g := gb583) (o := .cells #[.int .i64 0, .slice none 0 0, .slice none 0 0] 37 (0, 0)) (rK_ BK583.out) hg (Kd.R_ne HO_585002.out BK583.out (by decide))) <| b_ (blk_grown (g := gb584) (o := .cells #[.int .i64 (wrap64 (bt a0 0)), u585001, u585002] 37 (0, 0)) (rK_ BK584.out) hg (Kd.R_ne HO_585002.out BK584.out (by decide))) <| b_ (hb) <| c_ (ho); clear HO_585002 HO_585001 BK583 BK584 HB; obtain ⟨HO_585001, BK583, BK584, HB, HO590⟩ := n_; clear ho hb hg hat; obtain ⟨Ao30, co30, eo30⟩ := Kd.R_slice HO590.out; subst eo30; have hcz31_0 : w29.cell? ⟨gb584, 0, none⟩ = some (.int .i64 (wrap64 (bt a0 0))) := (blk_cell BK584.out 0).trans rfl; have hcz31_1 : w29.cell? ⟨gb584, 1, none⟩ = some (u585001) := (blk_cell BK584.out 1).trans rfl; have hcz31_2 : w29.cell? ⟨gb584, 2, none⟩ = some (u585002) := (blk_cell BK584.out 2).trans rfl; have hfz31_0 := blk_frozen BK584.out 0; have hfz31_1 := blk_frozen BK584.out 1; have hfz31_2 := blk_frozen BK584.out 2))
      go_roundg k2
      case measure => have := HJ1.out; have := HK2.out; omega
      case rel => exact ⟨(wrap64 (x5_2 + 1)), (x585001_2), (y588), (u585001), (.slice Ao30 y588.length co30), (by first | rfl | (simp; done) | (simp [*]; done)), H', ⟨by have := HJ1.out; have := HK2.out; omega⟩, ⟨by refine kR_ ?_; exact Kd.R_mono (Kd.R_far (Kd.R_types HO_585001.out BK584.out (by decide)) (fun _ hk => hk.2) _) (fun _ hk => hk.1.2)⟩, ⟨by refine kR_ ?_; exact Kd.R_mono (Kd.R_far (Kd.R_types HO590.out BK584.out (by decide)) (fun _ hk => hk.2) _) (fun _ hk => hk.1)⟩, ⟨by refine kK_ ?_; refine blk_far ?_ NB583_584.out _; refine kK_ ?_; exact BK583.out⟩, ⟨by refine kK_ ?_; refine blk_put (cs := #[.int .i64 (wrap64 (bt a0 0)), u585001, u585002]) ?_ 2 _ rfl; refine kK_ ?_; exact BK584.out⟩, ⟨(u4_ GE583.out GE584.out)⟩⟩

/-! ### spec_ReadHyper: function 22 -/
theorem spec_ReadHyper.w53 : wrap64 53 = 53 := by kernel_rfl
theorem spec_ReadHyper.w98 : wrap64 98 = 98 := by kernel_rfl
theorem spec_ReadHyper.w102 : wrap64 102 = 102 := by kernel_rfl
attribute [local go_sem] spec_ReadHyper.w53 spec_ReadHyper.w98 spec_ReadHyper.w102
def spec_ReadHyper.f (k : Nat) (a0 : ByteArray) : Option (Int × List ByteArray × List ByteArray × ByteArray × Int × List ByteArray × List ByteArray × Bool) := if (a0.size : Int) = 102 then (if 0 ≤ 49 then (if 49 ≤ (a0.size : Int) then ((spec_ReadSig.f k (a0.extract 0 49)).bind fun bt592 => (if 53 ≤ (a0.size : Int) then ((spec_ReadSig.f k (a0.extract 53 a0.size)).bind fun bt601 => (if bt592.2.2.2 = true then (if bt601.2.2.2 = true then (if 49 ≤ 53 then (some (bt592.1, bt592.2.1, bt592.2.2.1, a0.extract 49 53, bt601.1, bt601.2.1, bt601.2.2.1, true)) else (none)) else (some (0, ([] : List ByteArray), ([] : List ByteArray), (⟨#[]⟩ : ByteArray), 0, ([] : List ByteArray), ([] : List ByteArray), false))) else (some (0, ([] : List ByteArray), ([] : List ByteArray), (⟨#[]⟩ : ByteArray), 0, ([] : List ByteArray), ([] : List ByteArray), false)))) else (none))) else (none)) else (none)) else (some (0, ([] : List ByteArray), ([] : List ByteArray), (⟨#[]⟩ : ByteArray), 0, ([] : List ByteArray), ([] : List ByteArray), false))
theorem spec_ReadHyper.mono : ∀ a0 k, LeO (spec_ReadHyper.f k a0) (spec_ReadHyper.f (k + 1) a0) := by
 intro a0 k
 unfold spec_ReadHyper.f
 exact o1_ spec_ReadSig.mono
def spec_ReadHyper.T8 : Bool × List (List Nat × List Nat) := (true, [([], []), ([], []), ([], []), ([], []), ([3], [3]), ([1, 2, 4], [1, 2, 4]), ([], []), ([0, 5, 6], [0, 5, 6]), ([7, 0, 1, 2, 3, 4, 5, 6, 7], [7]), ([8, 0, 1, 2, 3, 4, 5, 6, 7, 8], [])])
def spec_ReadHyper.B8 : List Nat := [0, 0, 0, 0, 8, 30, 0, 127, 255, 511]
theorem spec_ReadHyper.tab8 : rtab .any (opsOf Try.f22 8) = spec_ReadHyper.T8 := by kernel_rfl
theorem spec_ReadHyper.bits8 : waitsOk spec_ReadHyper.T8.2 spec_ReadHyper.B8 = true := by kernel_rfl
theorem spec_ReadHyper.calls (k : Nat) (a0 : ByteArray) (r1 : Int) (r2 : List ByteArray) (r3 : List ByteArray) (r4 : ByteArray) (r5 : Int) (r6 : List ByteArray) (r7 : List ByteArray) (r8 : Bool) (w : World) (h : spec_ReadHyper.f k a0 = some (r1, r2, r3, r4, r5, r6, r7, r8)) :
  Calls Try.prog 22 #[.string a0] w fun e w' => ∃ v1_ v2_ v5_ v6_ : Value, e = .returned (.tuple #[.agg #[.int .i64 r1, v1_, v2_, .string r4, .int .i64 r5, v5_, v6_], .bool r8]) ∧ Kd.R Kd.string 9 w' w.heap.size (fun k_ => some k_ ≠ (v2_ : Value).ownBlock ∧ some k_ ≠ (v5_ : Value).ownBlock ∧ some k_ ≠ (v6_ : Value).ownBlock) v1_ r2 ∧ Kd.R Kd.string 9 w' w.heap.size (fun k_ => some k_ ≠ (v1_ : Value).ownBlock ∧ some k_ ≠ (v5_ : Value).ownBlock ∧ some k_ ≠ (v6_ : Value).ownBlock) v2_ r3 ∧ Kd.R Kd.string 9 w' w.heap.size (fun k_ => some k_ ≠ (v1_ : Value).ownBlock ∧ some k_ ≠ (v2_ : Value).ownBlock ∧ some k_ ≠ (v6_ : Value).ownBlock) v5_ r6 ∧ Kd.R Kd.string 9 w' w.heap.size (fun k_ => some k_ ≠ (v1_ : Value).ownBlock ∧ some k_ ≠ (v2_ : Value).ownBlock ∧ some k_ ≠ (v5_ : Value).ownBlock) v6_ r7 ∧ Below w.heap.size w w' := by
 have hu39 := Try.underlying39
 have hu37 := Try.underlying37
 have HB := Aside0.mk (Below.refl w.heap.size w)
 delta spec_ReadHyper.f at h
 have H := h
 clear h
 by_cases c2 : (a0.size : Int) = 102
 rotate_left
 ·rw [if_neg c2] at H
  have c2b0 : ((a0.size : Int) == 102) = false := beq_eq_false_iff_ne.mpr c2
  have c2b1 : ((a0.size : Int) != 102) = true := bne_iff_ne.mpr c2
  simp only [Option.some.injEq, Prod.mk.injEq] at H
  obtain ⟨rfl, rfl, rfl, rfl, rfl, rfl, rfl, rfl⟩ := H
  go_enter Try.func22, Try.ntmps22
  go_wp2_with (first | ((with_reducible refine gate_dst (N := 2) rfl ?_); refine box_event ?hg (N := 2) ?hd (cs := #[.int .i64 0, .slice none 0 0, .slice none 0 0, .string (⟨#[]⟩ : ByteArray), .int .i64 0, .slice none 0 0, .slice none 0 0]) (t := 39) ?hr ?_; (case hd => rfl); (case hg => rfl); (case hr => first | (go_simp; done) | (go_simp; rfl)); intro gb591 hg w65 hbox hb; have n_ := b_ (below_step (hB_) hb) <| b_ (hbox) <| b_ (by rw [hg]; exact (below_size (hB_)) : w.heap.size ≤ gb591) <| c_ (by rw [hg]; exact (below_size (hB_)) : w.heap.size ≤ gb591); clear HB; obtain ⟨HB, BK591, GW591, GE591⟩ := n_; clear hb hbox hg; have hcz66_0 : w65.cell? ⟨gb591, 0, none⟩ = some (.int .i64 0) := (blk_cell BK591.out 0).trans rfl; have hcz66_1 : w65.cell? ⟨gb591, 1, none⟩ = some (.slice none 0 0) := (blk_cell BK591.out 1).trans rfl; have hcz66_2 : w65.cell? ⟨gb591, 2, none⟩ = some (.slice none 0 0) := (blk_cell BK591.out 2).trans rfl; have hcz66_3 : w65.cell? ⟨gb591, 3, none⟩ = some (.string (⟨#[]⟩ : ByteArray)) := (blk_cell BK591.out 3).trans rfl; have hcz66_4 : w65.cell? ⟨gb591, 4, none⟩ = some (.int .i64 0) := (blk_cell BK591.out 4).trans rfl; have hcz66_5 : w65.cell? ⟨gb591, 5, none⟩ = some (.slice none 0 0) := (blk_cell BK591.out 5).trans rfl; have hcz66_6 : w65.cell? ⟨gb591, 6, none⟩ = some (.slice none 0 0) := (blk_cell BK591.out 6).trans rfl; have hfz66_0 := blk_frozen BK591.out 0; have hfz66_1 := blk_frozen BK591.out 1; have hfz66_2 := blk_frozen BK591.out 2; have hfz66_3 := blk_frozen BK591.out 3; have hfz66_4 := blk_frozen BK591.out 4; have hfz66_5 := blk_frozen BK591.out 5; have hfz66_6 := blk_frozen BK591.out 6))
  refine bodyPost_ret (results_ct rfl _ _ gb591 39 #[.int .i64 0, .slice none 0 0, .slice none 0 0, .string (⟨#[]⟩ : ByteArray), .int .i64 0, .slice none 0 0, .slice none 0 0] (0, 0) _ rfl (by refine kK_ ?_; refine blk_put (cs := #[.int .i64 0, .slice none 0 0, .slice none 0 0, .string (⟨#[]⟩ : ByteArray), .int .i64 0, .slice none 0 0, .slice none 0 0]) ?_ 6 _ rfl; refine kK_ ?_; refine blk_put (cs := #[.int .i64 0, .slice none 0 0, .slice none 0 0, .string (⟨#[]⟩ : ByteArray), .int .i64 0, .slice none 0 0, .slice none 0 0]) ?_ 5 _ rfl; refine kK_ ?_; refine blk_put (cs := #[.int .i64 0, .slice none 0 0, .slice none 0 0, .string (⟨#[]⟩ : ByteArray), .int .i64 0, .slice none 0 0, .slice none 0 0]) ?_ 4 _ rfl; refine kK_ ?_; refine blk_put (cs := #[.int .i64 0, .slice none 0 0, .slice none 0 0, .string (⟨#[]⟩ : ByteArray), .int .i64 0, .slice none 0 0, .slice none 0 0]) ?_ 3 _ rfl; refine kK_ ?_; refine blk_put (cs := #[.int .i64 0, .slice none 0 0, .slice none 0 0, .string (⟨#[]⟩ : ByteArray), .int .i64 0, .slice none 0 0, .slice none 0 0]) ?_ 2 _ rfl; refine kK_ ?_; refine blk_put (cs := #[.int .i64 0, .slice none 0 0, .slice none 0 0, .string (⟨#[]⟩ : ByteArray), .int .i64 0, .slice none 0 0, .slice none 0 0]) ?_ 1 _ rfl; refine kK_ ?_; refine blk_put (cs := #[.int .i64 0, .slice none 0 0, .slice none 0 0, .string (⟨#[]⟩ : ByteArray), .int .i64 0, .slice none 0 0, .slice none 0 0]) ?_ 0 _ rfl; exact rK_ BK591.out) Try.underlying39 rfl (by kernel_rfl)) rfl ?_
  exact ⟨_, _, _, _, by first | rfl | (simp [errW_none, errW_some] <;> rfl) | (simp [*, errW_none, errW_some] <;> rfl), by first | exact Kd.R_nil _ _ _ _ _ | exact Kd.N_nil _ _ _ _ _ | exact Kd.V_nil _ _ _ _ _ | exact Kd.Q_nil _ _ _ _ _ | exact Kd.S_nil _ _ _ _ _, by first | exact Kd.R_nil _ _ _ _ _ | exact Kd.N_nil _ _ _ _ _ | exact Kd.V_nil _ _ _ _ _ | exact Kd.Q_nil _ _ _ _ _ | exact Kd.S_nil _ _ _ _ _, by first | exact Kd.R_nil _ _ _ _ _ | exact Kd.N_nil _ _ _ _ _ | exact Kd.V_nil _ _ _ _ _ | exact Kd.Q_nil _ _ _ _ _ | exact Kd.S_nil _ _ _ _ _, by first | exact Kd.R_nil _ _ _ _ _ | exact Kd.N_nil _ _ _ _ _ | exact Kd.V_nil _ _ _ _ _ | exact Kd.Q_nil _ _ _ _ _ | exact Kd.S_nil _ _ _ _ _, hS_ GE591.out⟩
 rw [if_pos c2] at H
 have c2b0 : ((a0.size : Int) == 102) = true := beq_iff_eq.mpr c2
 have c2b1 : ((a0.size : Int) != 102) = false := bne_eq_false_iff_eq.mpr c2
 clear c2
 obtain ⟨c3, H⟩ := iN_ H
 have c3b0 := eq_true c3
 have c3b1 := decide_eq_true c3
 clear c3
 obtain ⟨c4, H⟩ := iN_ H
 have c4b0 := eq_true c4
 have c4b1 := decide_eq_true c4
 clear c4
 obtain ⟨⟨t592, t593, t596, t599⟩, A5, H⟩ := bN_ H
 obtain ⟨c6, H⟩ := iN_ H
 have c6b0 := eq_true c6
 have c6b1 := decide_eq_true c6
 clear c6
 obtain ⟨⟨t601, t602, t605, t608⟩, A7, H⟩ := bN_ H
 by_cases c8 : t599 = true
 ·subst c8
  replace H := iT_ H
  by_cases c9 : t608 = true
  ·subst c9
   replace H := iT_ H
   obtain ⟨c10, H⟩ := iN_ H
   have c10b0 := eq_true c10
   have c10b1 := decide_eq_true c10
   clear c10
   have c11b0 := eq_true (of_decide_eq_true (by first | (with_reducible assumption) | assumption) : 53 ≤ (a0.size : Int))
   simp only [Option.some.injEq, Prod.mk.injEq] at H
   obtain ⟨rfl, rfl, rfl, rfl, rfl, rfl, rfl, rfl⟩ := H
   go_enter Try.func22, Try.ntmps22
   try go_wp2_with (first | ((with_reducible refine gate_dst (N := 2) rfl ?_); refine box_event ?hg (N := 2) ?hd (cs := #[.int .i64 0, .slice none 0 0, .slice none 0 0, .string (⟨#[]⟩ : ByteArray), .int .i64 0, .slice none 0 0, .slice none 0 0]) (t := 39) ?hr ?_; (case hd => rfl); (case hg => rfl); (case hr => first | (go_simp; done) | (go_simp; rfl)); intro gb591 hg w12 hbox hb; have n_ := b_ (below_step (hB_) hb) <| b_ (hbox) <| b_ (by rw [hg]; exact (below_size (hB_)) : w.heap.size ≤ gb591) <| c_ (by rw [hg]; exact (below_size (hB_)) : w.heap.size ≤ gb591); clear HB; obtain ⟨HB, BK591, GW591, GE591⟩ := n_; clear hb hbox hg) | ((with_reducible refine gate_callee (f := 46) rfl ?_); refine goesL_ (some 20) rfl rfl Try.func46 (by kernel_rfl) rfl #[.string (a0.extract 0 49)] rfl aM_ ?_; (with_reducible refine (spec_ReadSig.calls k (a0.extract 0 49) t592 t593 t596 true _ A5.out).mono ?_); rintro e w13 ⟨v594, v597, rfl, ho0, ho1, hb⟩; refine ⟨_, rfl, ?_⟩; have n_ := b_ (Kd.R_lower ho0 (below_size (hS_ GE591.out))) <| b_ (Kd.R_lower ho1 (below_size (hS_ GE591.out))) <| b_ (blk_below (g := gb591) (o := .cells #[.int .i64 0, .slice none 0 0, .slice none 0 0, .string (⟨#[]⟩ : ByteArray), .int .i64 0, .slice none 0 0, .slice none 0 0] 39 (0, 0)) (rK_ BK591.out) hb) <| c_ (below_step (hS_ GE591.out) hb); clear BK591 HB; obtain ⟨HO595, HO598, BK591, HB⟩ := n_; (try clear ho1)) | ((with_reducible refine gate_dst (N := 5) rfl ?_); refine box_event ?hg (N := 5) ?hd (cs := #[.int .i64 0, .slice none 0 0, .slice none 0 0]) (t := 37) ?hr ?_; (case hd => rfl); (case hg => rfl); (case hr => first | (go_simp; done) | (go_simp; rfl)); intro gb600 hg w14 hbox hb; have n_ := b_ (Kd.R_below (rR_ HO595.out) hb) <| b_ (Kd.R_below (rR_ HO598.out) hb) <| b_ (blk_below (g := gb591) (o := .cells #[.int .i64 0, .slice none 0 0, .slice none 0 0, .string (⟨#[]⟩ : ByteArray), .int .i64 0, .slice none 0 0, .slice none 0 0] 39 (0, 0)) (rK_ BK591.out) hb) <| b_ (below_step (hS_ GE591.out) hb) <| b_ (hbox) <| b_ (by rw [hg]; exact (below_size (hS_ GE591.out)) : w.heap.size ≤ gb600) <| b_ (by rw [hg]; exact (below_size (hS_ GE591.out)) : w.heap.size ≤ gb600) <| b_ (by rw [hg]; exact Nat.ne_of_lt (blk_lt (g := gb591) (o := .cells #[.int .i64 0, .slice none 0 0, .slice none 0 0, .string (⟨#[]⟩ : ByteArray), .int .i64 0, .slice none 0 0, .slice none 0 0] 39 (0, 0)) (rK_ BK591.out)) : gb591 ≠ gb600) <| c_ (by rw [hg]; exact Nat.ne_of_gt (blk_lt (g := gb591) (o := .cells #[.int .i64 0, .slice none 0 0, .slice none 0 0, .string (⟨#[]⟩ : ByteArray), .int .i64 0, .slice none 0 0, .slice none 0 0] 39 (0, 0)) (rK_ BK591.out)) : gb600 ≠ gb591); clear HO595 HO598 BK591 HB; obtain ⟨HO595, HO598, BK591, HB, BK600, GW600, GE600, NB591_600, NB600_591⟩ := n_; clear hb hbox hg; have hnb15 := NB600_591.out; have hnc15 := NB591_600.out; have hcz16_0 : w14.cell? ⟨gb600, 0, none⟩ = some (.int .i64 0) := (blk_cell BK600.out 0).trans rfl; have hcz16_1 : w14.cell? ⟨gb600, 1, none⟩ = some (.slice none 0 0) := (blk_cell BK600.out 1).trans rfl; have hcz16_2 : w14.cell? ⟨gb600, 2, none⟩ = some (.slice none 0 0) := (blk_cell BK600.out 2).trans rfl; have hfz16_0 := blk_frozen BK600.out 0; have hfz16_1 := blk_frozen BK600.out 1; have hfz16_2 := blk_frozen BK600.out 2; obtain ⟨Ao17, co17, eo17⟩ := Kd.R_slice HO595.out; subst eo17; obtain ⟨Ao18, co18, eo18⟩ := Kd.R_slice HO598.out; subst eo18) | ((with_reducible refine gate_callee (f := 46) rfl ?_); refine goesL_ (some 28) rfl rfl Try.func46 (by kernel_rfl) rfl #[.string (a0.extract 53 a0.size)] rfl aM_ ?_; (with_reducible refine (spec_ReadSig.calls k (a0.extract 53 a0.size) t601 t602 t605 true _ A7.out).mono ?_); rintro e w19 ⟨v603, v606, rfl, ho0, ho1, hb⟩; refine ⟨_, rfl, ?_⟩; have n_ := b_ (Kd.R_mono (Kd.R_told (Kd.R_told (Kd.R_old (by refine kR_ ?_; exact (Kd.R_mono (Kd.R_far (Kd.R_far (Kd.R_far (Kd.R_types HO595.out BK600.out (by decide)) (fun _ hk => hk.2) _) (fun _ hk => hk.2) _) (fun _ hk => hk.2) _) (fun _ h_ => h_.1))) hb) (Kd.R_base ho0)) (Kd.R_base ho1)) (fun _ h_ => h_.1)) <| b_ (Kd.R_mono (Kd.R_told (Kd.R_told (Kd.R_old (by refine kR_ ?_; exact (Kd.R_mono (Kd.R_far (Kd.R_far (Kd.R_far (Kd.R_types HO598.out BK600.out (by decide)) (fun _ hk => hk.2) _) (fun _ hk => hk.2) _) (fun _ hk => hk.2) _) (fun _ h_ => h_.1))) hb) (Kd.R_base ho0)) (Kd.R_base ho1)) (fun _ h_ => h_.1)) <| b_ (Kd.R_lower (Kd.R_new' (Kd.R_new' ho0 (Kd.R_lt (by refine kR_ ?_; exact (Kd.R_mono (Kd.R_far (Kd.R_far (Kd.R_far (Kd.R_types HO595.out BK600.out (by decide)) (fun _ hk => hk.2) _) (fun _ hk => hk.2) _) (fun _ hk => hk.2) _) (fun _ h_ => h_.1))))) (Kd.R_lt (by refine kR_ ?_; exact (Kd.R_mono (Kd.R_far (Kd.R_far (Kd.R_far (Kd.R_types HO598.out BK600.out (by decide)) (fun _ hk => hk.2) _) (fun _ hk => hk.2) _) (fun _ hk => hk.2) _) (fun _ h_ => h_.1))))) (below_size ((u4_ GE591.out GE600.out)))) <| b_ (Kd.R_lower (Kd.R_new' (Kd.R_new' ho1 (Kd.R_lt (by refine kR_ ?_; exact (Kd.R_mono (Kd.R_far (Kd.R_far (Kd.R_far (Kd.R_types HO595.out BK600.out (by decide)) (fun _ hk => hk.2) _) (fun _ hk => hk.2) _) (fun _ hk => hk.2) _) (fun _ h_ => h_.1))))) (Kd.R_lt (by refine kR_ ?_; exact (Kd.R_mono (Kd.R_far (Kd.R_far (Kd.R_far (Kd.R_types HO598.out BK600.out (by decide)) (fun _ hk => hk.2) _) (fun _ hk => hk.2) _) (fun _ hk => hk.2) _) (fun _ h_ => h_.1))))) (below_size ((u4_ GE591.out GE600.out)))) <| b_ (blk_below (g := gb591) (o := .cells #[.int .i64 0, .slice none 0 0, .slice none 0 0, .string (⟨#[]⟩ : ByteArray), .int .i64 0, .slice none 0 0, .slice none 0 0] 39 (0, 0)) (by refine kK_ ?_; refine blk_far ?_ NB591_600.out _; refine kK_ ?_; refine blk_far ?_ NB591_600.out _; refine kK_ ?_; refine blk_far ?_ NB591_600.out _; exact rK_ BK591.out) hb) <| b_ (blk_below (g := gb600) (o := .cells #[.int .i64 t592, .slice Ao17 t593.length co17, .slice Ao18 t596.length co18] 37 (0, 0)) (by refine kK_ ?_; refine blk_put (cs := #[.int .i64 t592, .slice Ao17 t593.length co17, .slice none 0 0]) ?_ 2 _ rfl; refine kK_ ?_; refine blk_put (cs := #[.int .i64 t592, .slice none 0 0, .slice none 0 0]) ?_ 1 _ rfl; refine kK_ ?_; refine blk_put (cs := #[.int .i64 0, .slice none 0 0, .slice none 0 0]) ?_ 0 _ rfl; exact rK_ BK600.out) hb) <| c_ (below_step ((u4_ GE591.out GE600.out)) hb); clear HO595 HO598 BK591 BK600 HB; obtain ⟨HO595, HO598, HO604, HO607, BK591, BK600, HB⟩ := n_; (try clear ho1)) | ((with_reducible refine gate_dst (N := 7) rfl ?_); refine box_event ?hg (N := 7) ?hd (cs := #[.int .i64 0, .slice none 0 0, .slice none 0 0]) (t := 37) ?hr ?_; (case hd => rfl); (case hg => rfl); (case hr => first | (go_simp; done) | (go_simp; rfl)); intro gb609 hg w20 hbox hb; have n_ := b_ (Kd.R_below (rR_ HO595.out) hb) <| b_ (Kd.R_below (rR_ HO598.out) hb) <| b_ (Kd.R_below (rR_ HO604.out) hb) <| b_ (Kd.R_below (rR_ HO607.out) hb) <| b_ (blk_below (g := gb591) (o := .cells #[.int .i64 0, .slice none 0 0, .slice none 0 0, .string (⟨#[]⟩ : ByteArray), .int .i64 0, .slice none 0 0, .slice none 0 0] 39 (0, 0)) (rK_ BK591.out) hb) <| b_ (blk_below (g := gb600) (o := .cells #[.int .i64 t592, .slice Ao17 t593.length co17, .slice Ao18 t596.length co18] 37 (0, 0)) (rK_ BK600.out) hb) <| b_ (below_step ((u4_ GE591.out GE600.out)) hb) <| b_ (hbox) <| b_ (by rw [hg]; exact (below_size ((u4_ GE591.out GE600.out))) : w.heap.size ≤ gb609) <| b_ (by rw [hg]; exact (below_size ((u4_ GE591.out GE600.out))) : w.heap.size ≤ gb609) <| b_ (by rw [hg]; exact Nat.ne_of_lt (blk_lt (g := gb591) (o := .cells #[.int .i64 0, .slice none 0 0, .slice none 0 0, .string (⟨#[]⟩ : ByteArray), .int .i64 0, .slice none 0 0, .slice none 0 0] 39 (0, 0)) (rK_ BK591.out)) : gb591 ≠ gb609) <| b_ (by rw [hg]; exact Nat.ne_of_gt (blk_lt (g := gb591) (o := .cells #[.int .i64 0, .slice none 0 0, .slice none 0 0, .string (⟨#[]⟩ : ByteArray), .int .i64 0, .slice none 0 0, .slice none 0 0] 39 (0, 0)) (rK_ BK591.out)) : gb609 ≠ gb591) <| b_ (by rw [hg]; exact Nat.ne_of_lt (blk_lt (g := gb600) (o := .cells #[.int .i64 t592, .slice Ao17 t593.length co17, .slice Ao18 t596.length co18] 37 (0, 0)) (rK_ BK600.out)) : gb600 ≠ gb609) <| c_ (by rw [hg]; exact Nat.ne_of_gt (blk_lt (g := gb600) (o := .cells #[.int .i64 t592, .slice Ao17 t593.length co17, .slice Ao18 t596.length co18] 37 (0, 0)) (rK_ BK600.out)) : gb609 ≠ gb600); clear HO595 HO598 HO604 HO607 BK591 BK600 HB; obtain ⟨HO595, HO598, HO604, HO607, BK591, BK600, HB, BK609, GW609, GE609, NB591_609, NB609_591, NB600_609, NB609_600⟩ := n_; clear hb hbox hg; have hnb21 := NB609_591.out; have hnc21 := NB591_609.out; have hnb22 := NB609_600.out; have hnc22 := NB600_609.out; have hcz23_0 : w20.cell? ⟨gb609, 0, none⟩ = some (.int .i64 0) := (blk_cell BK609.out 0).trans rfl; have hcz23_1 : w20.cell? ⟨gb609, 1, none⟩ = some (.slice none 0 0) := (blk_cell BK609.out 1).trans rfl; have hcz23_2 : w20.cell? ⟨gb609, 2, none⟩ = some (.slice none 0 0) := (blk_cell BK609.out 2).trans rfl; have hfz23_0 := blk_frozen BK609.out 0; have hfz23_1 := blk_frozen BK609.out 1; have hfz23_2 := blk_frozen BK609.out 2; obtain ⟨Ao24, co24, eo24⟩ := Kd.R_slice HO604.out; subst eo24; obtain ⟨Ao25, co25, eo25⟩ := Kd.R_slice HO607.out; subst eo25))
   have n_ := b_ (show Kd.R Kd.string 9 (((w20.setCell ⟨gb609, 0, none⟩ (.int .i64 t601)).setCell ⟨gb609, 1, none⟩ (.slice Ao24 t602.length co24)).setCell ⟨gb609, 2, none⟩ (.slice Ao25 t605.length co25)) w.heap.size (fun k_ => some k_ ≠ (.slice Ao18 t596.length co18 : Value).ownBlock ∧ some k_ ≠ (.slice Ao24 t602.length co24 : Value).ownBlock ∧ some k_ ≠ (.slice Ao25 t605.length co25 : Value).ownBlock) (.slice Ao17 t593.length co17) t593 from by refine kR_ ?_; exact Kd.R_mono (Kd.R_far (Kd.R_far (Kd.R_far (Kd.R_types HO595.out BK609.out (by decide)) (fun _ hk => hk.2) _) (fun _ hk => hk.2) _) (fun _ hk => hk.2) _) (fun _ hk => ⟨hk.1.1.1, ⟨hk.1.1.2, hk.1.2⟩⟩)) <| b_ (show Kd.R Kd.string 9 (((w20.setCell ⟨gb609, 0, none⟩ (.int .i64 t601)).setCell ⟨gb609, 1, none⟩ (.slice Ao24 t602.length co24)).setCell ⟨gb609, 2, none⟩ (.slice Ao25 t605.length co25)) w.heap.size (fun k_ => some k_ ≠ (.slice Ao17 t593.length co17 : Value).ownBlock ∧ some k_ ≠ (.slice Ao24 t602.length co24 : Value).ownBlock ∧ some k_ ≠ (.slice Ao25 t605.length co25 : Value).ownBlock) (.slice Ao18 t596.length co18) t596 from by refine kR_ ?_; exact Kd.R_mono (Kd.R_far (Kd.R_far (Kd.R_far (Kd.R_types HO598.out BK609.out (by decide)) (fun _ hk => hk.2) _) (fun _ hk => hk.2) _) (fun _ hk => hk.2) _) (fun _ hk => ⟨hk.1.1.1, ⟨hk.1.1.2, hk.1.2⟩⟩)) <| b_ (show Kd.R Kd.string 9 (((w20.setCell ⟨gb609, 0, none⟩ (.int .i64 t601)).setCell ⟨gb609, 1, none⟩ (.slice Ao24 t602.length co24)).setCell ⟨gb609, 2, none⟩ (.slice Ao25 t605.length co25)) w.heap.size (fun k_ => some k_ ≠ (.slice Ao17 t593.length co17 : Value).ownBlock ∧ some k_ ≠ (.slice Ao18 t596.length co18 : Value).ownBlock ∧ some k_ ≠ (.slice Ao25 t605.length co25 : Value).ownBlock) (.slice Ao24 t602.length co24) t602 from by refine kR_ ?_; exact Kd.R_mono (Kd.R_far (Kd.R_far (Kd.R_far (Kd.R_types HO604.out BK609.out (by decide)) (fun _ hk => hk.2) _) (fun _ hk => hk.2) _) (fun _ hk => hk.2) _) (fun _ hk => ⟨hk.1.1.2, ⟨hk.1.2, hk.1.1.1⟩⟩)) <| b_ (show Kd.R Kd.string 9 (((w20.setCell ⟨gb609, 0, none⟩ (.int .i64 t601)).setCell ⟨gb609, 1, none⟩ (.slice Ao24 t602.length co24)).setCell ⟨gb609, 2, none⟩ (.slice Ao25 t605.length co25)) w.heap.size (fun k_ => some k_ ≠ (.slice Ao17 t593.length co17 : Value).ownBlock ∧ some k_ ≠ (.slice Ao18 t596.length co18 : Value).ownBlock ∧ some k_ ≠ (.slice Ao24 t602.length co24 : Value).ownBlock) (.slice Ao25 t605.length co25) t605 from by refine kR_ ?_; exact Kd.R_mono (Kd.R_far (Kd.R_far (Kd.R_far (Kd.R_types HO607.out BK609.out (by decide)) (fun _ hk => hk.2) _) (fun _ hk => hk.2) _) (fun _ hk => hk.2) _) (fun _ hk => ⟨hk.1.1.2, ⟨hk.1.2, hk.1.1.1⟩⟩)) <| b_ (show (((w20.setCell ⟨gb609, 0, none⟩ (.int .i64 t601)).setCell ⟨gb609, 1, none⟩ (.slice Ao24 t602.length co24)).setCell ⟨gb609, 2, none⟩ (.slice Ao25 t605.length co25)).heap[gb591]? = some (.cells #[.int .i64 0, .slice none 0 0, .slice none 0 0, .string (⟨#[]⟩ : ByteArray), .int .i64 0, .slice none 0 0, .slice none 0 0] 39 (0, 0)) from by refine kK_ ?_; refine blk_far ?_ NB591_609.out _; refine kK_ ?_; refine blk_far ?_ NB591_609.out _; refine kK_ ?_; refine blk_far ?_ NB591_609.out _; refine kK_ ?_; exact BK591.out) <| b_ (show (((w20.setCell ⟨gb609, 0, none⟩ (.int .i64 t601)).setCell ⟨gb609, 1, none⟩ (.slice Ao24 t602.length co24)).setCell ⟨gb609, 2, none⟩ (.slice Ao25 t605.length co25)).heap[gb600]? = some (.cells #[.int .i64 t592, .slice Ao17 t593.length co17, .slice Ao18 t596.length co18] 37 (0, 0)) from by refine kK_ ?_; refine blk_far ?_ NB600_609.out _; refine kK_ ?_; refine blk_far ?_ NB600_609.out _; refine kK_ ?_; refine blk_far ?_ NB600_609.out _; refine kK_ ?_; exact BK600.out) <| b_ (show (((w20.setCell ⟨gb609, 0, none⟩ (.int .i64 t601)).setCell ⟨gb609, 1, none⟩ (.slice Ao24 t602.length co24)).setCell ⟨gb609, 2, none⟩ (.slice Ao25 t605.length co25)).heap[gb609]? = some (.cells #[.int .i64 t601, .slice Ao24 t602.length co24, .slice Ao25 t605.length co25] 37 (0, 0)) from by refine kK_ ?_; refine blk_put (cs := #[.int .i64 t601, .slice Ao24 t602.length co24, .slice none 0 0]) ?_ 2 _ rfl; refine kK_ ?_; refine blk_put (cs := #[.int .i64 t601, .slice none 0 0, .slice none 0 0]) ?_ 1 _ rfl; refine kK_ ?_; refine blk_put (cs := #[.int .i64 0, .slice none 0 0, .slice none 0 0]) ?_ 0 _ rfl; refine kK_ ?_; exact BK609.out) <| c_ (show Below w.heap.size w (((w20.setCell ⟨gb609, 0, none⟩ (.int .i64 t601)).setCell ⟨gb609, 1, none⟩ (.slice Ao24 t602.length co24)).setCell ⟨gb609, 2, none⟩ (.slice Ao25 t605.length co25)) from (u9_ GE591.out GE600.out GE609.out))
   clear HO595 HO598 HO604 HO607 BK591 BK600 BK609 HB
   generalize (((w20.setCell ⟨gb609, 0, none⟩ (.int .i64 t601)).setCell ⟨gb609, 1, none⟩ (.slice Ao24 t602.length co24)).setCell ⟨gb609, 2, none⟩ (.slice Ao25 t605.length co25)) = w26 at n_ ⊢
   obtain ⟨HO595, HO598, HO604, HO607, BK591, BK600, BK609, HB⟩ := n_
   have n_ := b_ (Kd.R_drew HO595.out) <| b_ (Kd.R_drew HO598.out) <| b_ (Kd.R_drew HO604.out) <| b_ (Kd.R_drew HO607.out) <| b_ (blk_drew BK591.out) <| b_ (blk_drew BK600.out) <| b_ (blk_drew BK609.out) <| c_ (below_drew1 HB.out)
   clear HO595 HO598 HO604 HO607 BK591 BK600 BK609 HB
   obtain ⟨HO595, HO598, HO604, HO607, BK591, BK600, BK609, HB⟩ := n_
   refine start_ (n := 10) (S := fun w' => w'.cell? ⟨gb600, 0, none⟩ = some (.int .i64 t592) ∧ w'.cell? ⟨gb600, 1, none⟩ = some (.slice Ao17 t593.length co17) ∧ w'.cell? ⟨gb600, 2, none⟩ = some (.slice Ao18 t596.length co18) ∧ w'.cell? ⟨gb609, 0, none⟩ = some (.int .i64 t601) ∧ w'.cell? ⟨gb609, 1, none⟩ = some (.slice Ao24 t602.length co24) ∧ w'.cell? ⟨gb609, 2, none⟩ = some (.slice Ao25 t605.length co25)) (ds := []) (bb_ 10 0) (by kernel_rfl) rfl rfl ⟨(blk_cell BK600.out 0).trans rfl, (blk_cell BK600.out 1).trans rfl, (blk_cell BK600.out 2).trans rfl, (blk_cell BK609.out 0).trans rfl, (blk_cell BK609.out 1).trans rfl, (blk_cell BK609.out 2).trans rfl⟩ (fun hHeld => ?_); refine with_tabW spec_ReadHyper.tab8 spec_ReadHyper.bits8 (fun HT_ HW_ => ?_)
   generalize w26.drew = w27 at HO595 HO598 HO604 HO607 BK591 BK600 BK609 HB hHeld ⊢
   refine pS_ 1 39 (bb_ 10 2) HT_.out ?_
   refine pS_ 2 40 (bb_ 10 6) HT_.out ?_
   refine pS_ 3 41 (bb_ 10 14) HT_.out ?_
   refine pS_ 4 42 (bb_ 10 30) HT_.out ?_
   refine pS_ 5 43 (bb_ 10 62) HT_.out ?_
   refine tS_ 0 38 (bb_ 10 63) (take_ofW HT_.out HW_.out (by kernel_rfl)) hHeld ?_
   refine tS_ 6 44 (bb_ 10 127) (take_ofW HT_.out HW_.out (by kernel_rfl)) hHeld ?_
   refine pS_ 7 45 (bb_ 10 255) HT_.out ?_
   refine one_ (i := 8) (N := none) (bb_ 10 511) rfl rfl (one_of HT_.out (by kernel_rfl)) (by decide) (fun K hK => ?_)
   have hs28 : w27.cell? ⟨gb591, 0, none⟩ = some (.int .i64 0) := (blk_cell BK591.out 0).trans rfl
   have hfs28 := blk_frozen BK591.out 0
   have hns28_1 := NB600_591.out
   have hns28_2 := NB609_591.out
   have hms28_1 := NB591_600.out
   have hms28_2 := NB591_609.out
   have hs29 : w27.cell? ⟨gb591, 1, none⟩ = some (.slice none 0 0) := (blk_cell BK591.out 1).trans rfl
   have hfs29 := blk_frozen BK591.out 1
   have hns29_1 := NB600_591.out
   have hns29_2 := NB609_591.out
   have hms29_1 := NB591_600.out
   have hms29_2 := NB591_609.out
   have hs30 : w27.cell? ⟨gb591, 2, none⟩ = some (.slice none 0 0) := (blk_cell BK591.out 2).trans rfl
   have hfs30 := blk_frozen BK591.out 2
   have hns30_1 := NB600_591.out
   have hns30_2 := NB609_591.out
   have hms30_1 := NB591_600.out
   have hms30_2 := NB591_609.out
   have hs31 : w27.cell? ⟨gb591, 3, none⟩ = some (.string (⟨#[]⟩ : ByteArray)) := (blk_cell BK591.out 3).trans rfl
   have hfs31 := blk_frozen BK591.out 3
   have hns31_1 := NB600_591.out
   have hns31_2 := NB609_591.out
   have hms31_1 := NB591_600.out
   have hms31_2 := NB591_609.out
   have hs32 : w27.cell? ⟨gb591, 4, none⟩ = some (.int .i64 0) := (blk_cell BK591.out 4).trans rfl
   have hfs32 := blk_frozen BK591.out 4
   have hns32_1 := NB600_591.out
   have hns32_2 := NB609_591.out
   have hms32_1 := NB591_600.out
   have hms32_2 := NB591_609.out
   have hs33 : w27.cell? ⟨gb591, 5, none⟩ = some (.slice none 0 0) := (blk_cell BK591.out 5).trans rfl
   have hfs33 := blk_frozen BK591.out 5
   have hns33_1 := NB600_591.out
   have hns33_2 := NB609_591.out
   have hms33_1 := NB591_600.out
   have hms33_2 := NB591_609.out
   have hs34 : w27.cell? ⟨gb591, 6, none⟩ = some (.slice none 0 0) := (blk_cell BK591.out 6).trans rfl
   have hfs34 := blk_frozen BK591.out 6
   have hns34_1 := NB600_591.out
   have hns34_2 := NB609_591.out
   have hms34_1 := NB591_600.out
   have hms34_2 := NB591_609.out
   refine skip_ (w1 := ?_) (by rfl) rfl ?_ ?_
   rotate_left
   ·go_simp
    rfl
   refine hK.out _ _ ⟨((cell_far (p := ⟨gb591, _, none⟩) NB600_591.out _).trans (((cell_far (p := ⟨gb591, _, none⟩) NB600_591.out _).trans (((cell_far (p := ⟨gb591, _, none⟩) NB600_591.out _).trans (((cell_far (p := ⟨gb591, _, none⟩) NB600_591.out _).trans (((cell_far (p := ⟨gb591, _, none⟩) NB600_591.out _).trans (((cell_far (p := ⟨gb591, _, none⟩) NB600_591.out _).trans (((cell_far (p := ⟨gb591, _, none⟩) NB600_591.out _).trans (hHeld.1)))))))))))))), ((cell_far (p := ⟨gb591, _, none⟩) NB600_591.out _).trans (((cell_far (p := ⟨gb591, _, none⟩) NB600_591.out _).trans (((cell_far (p := ⟨gb591, _, none⟩) NB600_591.out _).trans (((cell_far (p := ⟨gb591, _, none⟩) NB600_591.out _).trans (((cell_far (p := ⟨gb591, _, none⟩) NB600_591.out _).trans (((cell_far (p := ⟨gb591, _, none⟩) NB600_591.out _).trans (((cell_far (p := ⟨gb591, _, none⟩) NB600_591.out _).trans (hHeld.2.1)))))))))))))), ((cell_far (p := ⟨gb591, _, none⟩) NB600_591.out _).trans (((cell_far (p := ⟨gb591, _, none⟩) NB600_591.out _).trans (((cell_far (p := ⟨gb591, _, none⟩) NB600_591.out _).trans (((cell_far (p := ⟨gb591, _, none⟩) NB600_591.out _).trans (((cell_far (p := ⟨gb591, _, none⟩) NB600_591.out _).trans (((cell_far (p := ⟨gb591, _, none⟩) NB600_591.out _).trans (((cell_far (p := ⟨gb591, _, none⟩) NB600_591.out _).trans (hHeld.2.2.1)))))))))))))), ((cell_far (p := ⟨gb591, _, none⟩) NB609_591.out _).trans (((cell_far (p := ⟨gb591, _, none⟩) NB609_591.out _).trans (((cell_far (p := ⟨gb591, _, none⟩) NB609_591.out _).trans (((cell_far (p := ⟨gb591, _, none⟩) NB609_591.out _).trans (((cell_far (p := ⟨gb591, _, none⟩) NB609_591.out _).trans (((cell_far (p := ⟨gb591, _, none⟩) NB609_591.out _).trans (((cell_far (p := ⟨gb591, _, none⟩) NB609_591.out _).trans (hHeld.2.2.2.1)))))))))))))), ((cell_far (p := ⟨gb591, _, none⟩) NB609_591.out _).trans (((cell_far (p := ⟨gb591, _, none⟩) NB609_591.out _).trans (((cell_far (p := ⟨gb591, _, none⟩) NB609_591.out _).trans (((cell_far (p := ⟨gb591, _, none⟩) NB609_591.out _).trans (((cell_far (p := ⟨gb591, _, none⟩) NB609_591.out _).trans (((cell_far (p := ⟨gb591, _, none⟩) NB609_591.out _).trans (((cell_far (p := ⟨gb591, _, none⟩) NB609_591.out _).trans (hHeld.2.2.2.2.1)))))))))))))), ((cell_far (p := ⟨gb591, _, none⟩) NB609_591.out _).trans (((cell_far (p := ⟨gb591, _, none⟩) NB609_591.out _).trans (((cell_far (p := ⟨gb591, _, none⟩) NB609_591.out _).trans (((cell_far (p := ⟨gb591, _, none⟩) NB609_591.out _).trans (((cell_far (p := ⟨gb591, _, none⟩) NB609_591.out _).trans (((cell_far (p := ⟨gb591, _, none⟩) NB609_591.out _).trans (((cell_far (p := ⟨gb591, _, none⟩) NB609_591.out _).trans (hHeld.2.2.2.2.2))))))))))))))⟩ (fun hHeld => ?_)
   clear hK K
   refine pS_ 9 3 (bb_ 10 1023) HT_.out ?_
   refine done_ (done_of HT_.out (by kernel_rfl)) ?_
   try go_wp2
   refine bodyPost_ret (results_ct rfl _ _ gb591 39 #[.int .i64 t592, .slice Ao17 t593.length co17, .slice Ao18 t596.length co18, .string (a0.extract 49 53), .int .i64 t601, .slice Ao24 t602.length co24, .slice Ao25 t605.length co25] (0, 0) _ rfl (by refine kK_ ?_; refine blk_put (cs := #[.int .i64 t592, .slice Ao17 t593.length co17, .slice Ao18 t596.length co18, .string (a0.extract 49 53), .int .i64 t601, .slice Ao24 t602.length co24, .slice none 0 0]) ?_ 6 _ rfl; refine kK_ ?_; refine blk_put (cs := #[.int .i64 t592, .slice Ao17 t593.length co17, .slice Ao18 t596.length co18, .string (a0.extract 49 53), .int .i64 t601, .slice none 0 0, .slice none 0 0]) ?_ 5 _ rfl; refine kK_ ?_; refine blk_put (cs := #[.int .i64 t592, .slice Ao17 t593.length co17, .slice Ao18 t596.length co18, .string (a0.extract 49 53), .int .i64 0, .slice none 0 0, .slice none 0 0]) ?_ 4 _ rfl; refine kK_ ?_; refine blk_put (cs := #[.int .i64 t592, .slice Ao17 t593.length co17, .slice Ao18 t596.length co18, .string (⟨#[]⟩ : ByteArray), .int .i64 0, .slice none 0 0, .slice none 0 0]) ?_ 3 _ rfl; refine kK_ ?_; refine blk_put (cs := #[.int .i64 t592, .slice Ao17 t593.length co17, .slice none 0 0, .string (⟨#[]⟩ : ByteArray), .int .i64 0, .slice none 0 0, .slice none 0 0]) ?_ 2 _ rfl; refine kK_ ?_; refine blk_put (cs := #[.int .i64 t592, .slice none 0 0, .slice none 0 0, .string (⟨#[]⟩ : ByteArray), .int .i64 0, .slice none 0 0, .slice none 0 0]) ?_ 1 _ rfl; refine kK_ ?_; refine blk_put (cs := #[.int .i64 0, .slice none 0 0, .slice none 0 0, .string (⟨#[]⟩ : ByteArray), .int .i64 0, .slice none 0 0, .slice none 0 0]) ?_ 0 _ rfl; exact rK_ BK591.out) Try.underlying39 rfl (by kernel_rfl)) rfl ?_
   exact ⟨_, _, _, _, by first | rfl | (simp [errW_none, errW_some] <;> rfl) | (simp [*, errW_none, errW_some] <;> rfl), by refine kR_ ?_; exact Kd.R_mono (Kd.R_far (Kd.R_far (Kd.R_far (Kd.R_far (Kd.R_far (Kd.R_far (Kd.R_far (Kd.R_types HO595.out BK591.out (by decide)) (fun _ hk => hk.2) _) (fun _ hk => hk.2) _) (fun _ hk => hk.2) _) (fun _ hk => hk.2) _) (fun _ hk => hk.2) _) (fun _ hk => hk.2) _) (fun _ hk => hk.2) _) (fun _ hk => ⟨hk.1.1, ⟨hk.1.2.1, hk.1.2.2⟩⟩), by refine kR_ ?_; exact Kd.R_mono (Kd.R_far (Kd.R_far (Kd.R_far (Kd.R_far (Kd.R_far (Kd.R_far (Kd.R_far (Kd.R_types HO598.out BK591.out (by decide)) (fun _ hk => hk.2) _) (fun _ hk => hk.2) _) (fun _ hk => hk.2) _) (fun _ hk => hk.2) _) (fun _ hk => hk.2) _) (fun _ hk => hk.2) _) (fun _ hk => hk.2) _) (fun _ hk => ⟨hk.1.1, ⟨hk.1.2.1, hk.1.2.2⟩⟩), by refine kR_ ?_; exact Kd.R_mono (Kd.R_far (Kd.R_far (Kd.R_far (Kd.R_far (Kd.R_far (Kd.R_far (Kd.R_far (Kd.R_types HO604.out BK591.out (by decide)) (fun _ hk => hk.2) _) (fun _ hk => hk.2) _) (fun _ hk => hk.2) _) (fun _ hk => hk.2) _) (fun _ hk => hk.2) _) (fun _ hk => hk.2) _) (fun _ hk => hk.2) _) (fun _ hk => ⟨hk.1.1, ⟨hk.1.2.1, hk.1.2.2⟩⟩), by refine kR_ ?_; exact Kd.R_mono (Kd.R_far (Kd.R_far (Kd.R_far (Kd.R_far (Kd.R_far (Kd.R_far (Kd.R_far (Kd.R_types HO607.out BK591.out (by decide)) (fun _ hk => hk.2) _) (fun _ hk => hk.2) _) (fun _ hk => hk.2) _) (fun _ hk => hk.2) _) (fun _ hk => hk.2) _) (fun _ hk => hk.2) _) (fun _ hk => hk.2) _) (fun _ hk => ⟨hk.1.1, ⟨hk.1.2.1, hk.1.2.2⟩⟩), (u9_ GE591.out GE600.out GE609.out)⟩
  ·replace c9 := Bool.eq_false_iff.mpr c9
   subst c9
   replace H := iF_ H
   simp only [Option.some.injEq, Prod.mk.injEq] at H
   obtain ⟨rfl, rfl, rfl, rfl, rfl, rfl, rfl, rfl⟩ := H
   go_enter Try.func22, Try.ntmps22
   go_wp2_with (first | ((with_reducible refine gate_dst (N := 2) rfl ?_); refine box_event ?hg (N := 2) ?hd (cs := #[.int .i64 0, .slice none 0 0, .slice none 0 0, .string (⟨#[]⟩ : ByteArray), .int .i64 0, .slice none 0 0, .slice none 0 0]) (t := 39) ?hr ?_; (case hd => rfl); (case hg => rfl); (case hr => first | (go_simp; done) | (go_simp; rfl)); intro gb591 hg w35 hbox hb; have n_ := b_ (below_step (hB_) hb) <| b_ (hbox) <| b_ (by rw [hg]; exact (below_size (hB_)) : w.heap.size ≤ gb591) <| c_ (by rw [hg]; exact (below_size (hB_)) : w.heap.size ≤ gb591); clear HB; obtain ⟨HB, BK591, GW591, GE591⟩ := n_; clear hb hbox hg) | ((with_reducible refine gate_callee (f := 46) rfl ?_); refine goesL_ (some 20) rfl rfl Try.func46 (by kernel_rfl) rfl #[.string (a0.extract 0 49)] rfl aM_ ?_; (with_reducible refine (spec_ReadSig.calls k (a0.extract 0 49) t592 t593 t596 true _ A5.out).mono ?_); rintro e w36 ⟨v594, v597, rfl, ho0, ho1, hb⟩; refine ⟨_, rfl, ?_⟩; have n_ := b_ (Kd.R_lower ho0 (below_size (hS_ GE591.out))) <| b_ (Kd.R_lower ho1 (below_size (hS_ GE591.out))) <| b_ (blk_below (g := gb591) (o := .cells #[.int .i64 0, .slice none 0 0, .slice none 0 0, .string (⟨#[]⟩ : ByteArray), .int .i64 0, .slice none 0 0, .slice none 0 0] 39 (0, 0)) (rK_ BK591.out) hb) <| c_ (below_step (hS_ GE591.out) hb); clear BK591 HB; obtain ⟨HO595, HO598, BK591, HB⟩ := n_; (try clear ho1)) | ((with_reducible refine gate_dst (N := 5) rfl ?_); refine box_event ?hg (N := 5) ?hd (cs := #[.int .i64 0, .slice none 0 0, .slice none 0 0]) (t := 37) ?hr ?_; (case hd => rfl); (case hg => rfl); (case hr => first | (go_simp; done) | (go_simp; rfl)); intro gb600 hg w37 hbox hb; have n_ := b_ (Kd.R_below (rR_ HO595.out) hb) <| b_ (Kd.R_below (rR_ HO598.out) hb) <| b_ (blk_below (g := gb591) (o := .cells #[.int .i64 0, .slice none 0 0, .slice none 0 0, .string (⟨#[]⟩ : ByteArray), .int .i64 0, .slice none 0 0, .slice none 0 0] 39 (0, 0)) (rK_ BK591.out) hb) <| b_ (below_step (hS_ GE591.out) hb) <| b_ (hbox) <| b_ (by rw [hg]; exact (below_size (hS_ GE591.out)) : w.heap.size ≤ gb600) <| b_ (by rw [hg]; exact (below_size (hS_ GE591.out)) : w.heap.size ≤ gb600) <| b_ (by rw [hg]; exact Nat.ne_of_lt (blk_lt (g := gb591) (o := .cells #[.int .i64 0, .slice none 0 0, .slice none 0 0, .string (⟨#[]⟩ : ByteArray), .int .i64 0, .slice none 0 0, .slice none 0 0] 39 (0, 0)) (rK_ BK591.out)) : gb591 ≠ gb600) <| c_ (by rw [hg]; exact Nat.ne_of_gt (blk_lt (g := gb591) (o := .cells #[.int .i64 0, .slice none 0 0, .slice none 0 0, .string (⟨#[]⟩ : ByteArray), .int .i64 0, .slice none 0 0, .slice none 0 0] 39 (0, 0)) (rK_ BK591.out)) : gb600 ≠ gb591); clear HO595 HO598 BK591 HB; obtain ⟨HO595, HO598, BK591, HB, BK600, GW600, GE600, NB591_600, NB600_591⟩ := n_; clear hb hbox hg; have hnb38 := NB600_591.out; have hnc38 := NB591_600.out; have hcz39_0 : w37.cell? ⟨gb600, 0, none⟩ = some (.int .i64 0) := (blk_cell BK600.out 0).trans rfl; have hcz39_1 : w37.cell? ⟨gb600, 1, none⟩ = some (.slice none 0 0) := (blk_cell BK600.out 1).trans rfl; have hcz39_2 : w37.cell? ⟨gb600, 2, none⟩ = some (.slice none 0 0) := (blk_cell BK600.out 2).trans rfl; have hfz39_0 := blk_frozen BK600.out 0; have hfz39_1 := blk_frozen BK600.out 1; have hfz39_2 := blk_frozen BK600.out 2; obtain ⟨Ao40, co40, eo40⟩ := Kd.R_slice HO595.out; subst eo40; obtain ⟨Ao41, co41, eo41⟩ := Kd.R_slice HO598.out; subst eo41) | ((with_reducible refine gate_callee (f := 46) rfl ?_); refine goesL_ (some 28) rfl rfl Try.func46 (by kernel_rfl) rfl #[.string (a0.extract 53 a0.size)] rfl aM_ ?_; (with_reducible refine (spec_ReadSig.calls k (a0.extract 53 a0.size) t601 t602 t605 false _ A7.out).mono ?_); rintro e w42 ⟨v603, v606, rfl, ho0, ho1, hb⟩; refine ⟨_, rfl, ?_⟩; have n_ := b_ (Kd.R_mono (Kd.R_told (Kd.R_told (Kd.R_old (by refine kR_ ?_; exact (Kd.R_mono (Kd.R_far (Kd.R_far (Kd.R_far (Kd.R_types HO595.out BK600.out (by decide)) (fun _ hk => hk.2) _) (fun _ hk => hk.2) _) (fun _ hk => hk.2) _) (fun _ h_ => h_.1))) hb) (Kd.R_base ho0)) (Kd.R_base ho1)) (fun _ h_ => h_.1)) <| b_ (Kd.R_mono (Kd.R_told (Kd.R_told (Kd.R_old (by refine kR_ ?_; exact (Kd.R_mono (Kd.R_far (Kd.R_far (Kd.R_far (Kd.R_types HO598.out BK600.out (by decide)) (fun _ hk => hk.2) _) (fun _ hk => hk.2) _) (fun _ hk => hk.2) _) (fun _ h_ => h_.1))) hb) (Kd.R_base ho0)) (Kd.R_base ho1)) (fun _ h_ => h_.1)) <| b_ (Kd.R_lower (Kd.R_new' (Kd.R_new' ho0 (Kd.R_lt (by refine kR_ ?_; exact (Kd.R_mono (Kd.R_far (Kd.R_far (Kd.R_far (Kd.R_types HO595.out BK600.out (by decide)) (fun _ hk => hk.2) _) (fun _ hk => hk.2) _) (fun _ hk => hk.2) _) (fun _ h_ => h_.1))))) (Kd.R_lt (by refine kR_ ?_; exact (Kd.R_mono (Kd.R_far (Kd.R_far (Kd.R_far (Kd.R_types HO598.out BK600.out (by decide)) (fun _ hk => hk.2) _) (fun _ hk => hk.2) _) (fun _ hk => hk.2) _) (fun _ h_ => h_.1))))) (below_size ((u4_ GE591.out GE600.out)))) <| b_ (Kd.R_lower (Kd.R_new' (Kd.R_new' ho1 (Kd.R_lt (by refine kR_ ?_; exact (Kd.R_mono (Kd.R_far (Kd.R_far (Kd.R_far (Kd.R_types HO595.out BK600.out (by decide)) (fun _ hk => hk.2) _) (fun _ hk => hk.2) _) (fun _ hk => hk.2) _) (fun _ h_ => h_.1))))) (Kd.R_lt (by refine kR_ ?_; exact (Kd.R_mono (Kd.R_far (Kd.R_far (Kd.R_far (Kd.R_types HO598.out BK600.out (by decide)) (fun _ hk => hk.2) _) (fun _ hk => hk.2) _) (fun _ hk => hk.2) _) (fun _ h_ => h_.1))))) (below_size ((u4_ GE591.out GE600.out)))) <| b_ (blk_below (g := gb591) (o := .cells #[.int .i64 0, .slice none 0 0, .slice none 0 0, .string (⟨#[]⟩ : ByteArray), .int .i64 0, .slice none 0 0, .slice none 0 0] 39 (0, 0)) (by refine kK_ ?_; refine blk_far ?_ NB591_600.out _; refine kK_ ?_; refine blk_far ?_ NB591_600.out _; refine kK_ ?_; refine blk_far ?_ NB591_600.out _; exact rK_ BK591.out) hb) <| b_ (blk_below (g := gb600) (o := .cells #[.int .i64 t592, .slice Ao40 t593.length co40, .slice Ao41 t596.length co41] 37 (0, 0)) (by refine kK_ ?_; refine blk_put (cs := #[.int .i64 t592, .slice Ao40 t593.length co40, .slice none 0 0]) ?_ 2 _ rfl; refine kK_ ?_; refine blk_put (cs := #[.int .i64 t592, .slice none 0 0, .slice none 0 0]) ?_ 1 _ rfl; refine kK_ ?_; refine blk_put (cs := #[.int .i64 0, .slice none 0 0, .slice none 0 0]) ?_ 0 _ rfl; exact rK_ BK600.out) hb) <| c_ (below_step ((u4_ GE591.out GE600.out)) hb); clear HO595 HO598 BK591 BK600 HB; obtain ⟨HO595, HO598, HO604, HO607, BK591, BK600, HB⟩ := n_; (try clear ho1)) | ((with_reducible refine gate_dst (N := 7) rfl ?_); refine box_event ?hg (N := 7) ?hd (cs := #[.int .i64 0, .slice none 0 0, .slice none 0 0]) (t := 37) ?hr ?_; (case hd => rfl); (case hg => rfl); (case hr => first | (go_simp; done) | (go_simp; rfl)); intro gb609 hg w43 hbox hb; have n_ := b_ (Kd.R_below (rR_ HO595.out) hb) <| b_ (Kd.R_below (rR_ HO598.out) hb) <| b_ (Kd.R_below (rR_ HO604.out) hb) <| b_ (Kd.R_below (rR_ HO607.out) hb) <| b_ (blk_below (g := gb591) (o := .cells #[.int .i64 0, .slice none 0 0, .slice none 0 0, .string (⟨#[]⟩ : ByteArray), .int .i64 0, .slice none 0 0, .slice none 0 0] 39 (0, 0)) (rK_ BK591.out) hb) <| b_ (blk_below (g := gb600) (o := .cells #[.int .i64 t592, .slice Ao40 t593.length co40, .slice Ao41 t596.length co41] 37 (0, 0)) (rK_ BK600.out) hb) <| b_ (below_step ((u4_ GE591.out GE600.out)) hb) <| b_ (hbox) <| b_ (by rw [hg]; exact (below_size ((u4_ GE591.out GE600.out))) : w.heap.size ≤ gb609) <| b_ (by rw [hg]; exact (below_size ((u4_ GE591.out GE600.out))) : w.heap.size ≤ gb609) <| b_ (by rw [hg]; exact Nat.ne_of_lt (blk_lt (g := gb591) (o := .cells #[.int .i64 0, .slice none 0 0, .slice none 0 0, .string (⟨#[]⟩ : ByteArray), .int .i64 0, .slice none 0 0, .slice none 0 0] 39 (0, 0)) (rK_ BK591.out)) : gb591 ≠ gb609) <| b_ (by rw [hg]; exact Nat.ne_of_gt (blk_lt (g := gb591) (o := .cells #[.int .i64 0, .slice none 0 0, .slice none 0 0, .string (⟨#[]⟩ : ByteArray), .int .i64 0, .slice none 0 0, .slice none 0 0] 39 (0, 0)) (rK_ BK591.out)) : gb609 ≠ gb591) <| b_ (by rw [hg]; exact Nat.ne_of_lt (blk_lt (g := gb600) (o := .cells #[.int .i64 t592, .slice Ao40 t593.length co40, .slice Ao41 t596.length co41] 37 (0, 0)) (rK_ BK600.out)) : gb600 ≠ gb609) <| c_ (by rw [hg]; exact Nat.ne_of_gt (blk_lt (g := gb600) (o := .cells #[.int .i64 t592, .slice Ao40 t593.length co40, .slice Ao41 t596.length co41] 37 (0, 0)) (rK_ BK600.out)) : gb609 ≠ gb600); clear HO595 HO598 HO604 HO607 BK591 BK600 HB; obtain ⟨HO595, HO598, HO604, HO607, BK591, BK600, HB, BK609, GW609, GE609, NB591_609, NB609_591, NB600_609, NB609_600⟩ := n_; clear hb hbox hg; have hnb44 := NB609_591.out; have hnc44 := NB591_609.out; have hnb45 := NB609_600.out; have hnc45 := NB600_609.out; have hcz46_0 : w43.cell? ⟨gb609, 0, none⟩ = some (.int .i64 0) := (blk_cell BK609.out 0).trans rfl; have hcz46_1 : w43.cell? ⟨gb609, 1, none⟩ = some (.slice none 0 0) := (blk_cell BK609.out 1).trans rfl; have hcz46_2 : w43.cell? ⟨gb609, 2, none⟩ = some (.slice none 0 0) := (blk_cell BK609.out 2).trans rfl; have hfz46_0 := blk_frozen BK609.out 0; have hfz46_1 := blk_frozen BK609.out 1; have hfz46_2 := blk_frozen BK609.out 2; obtain ⟨Ao47, co47, eo47⟩ := Kd.R_slice HO604.out; subst eo47; obtain ⟨Ao48, co48, eo48⟩ := Kd.R_slice HO607.out; subst eo48; have hcz49_0 : w43.cell? ⟨gb591, 0, none⟩ = some (.int .i64 0) := (blk_cell BK591.out 0).trans rfl; have hcz49_1 : w43.cell? ⟨gb591, 1, none⟩ = some (.slice none 0 0) := (blk_cell BK591.out 1).trans rfl; have hcz49_2 : w43.cell? ⟨gb591, 2, none⟩ = some (.slice none 0 0) := (blk_cell BK591.out 2).trans rfl; have hcz49_3 : w43.cell? ⟨gb591, 3, none⟩ = some (.string (⟨#[]⟩ : ByteArray)) := (blk_cell BK591.out 3).trans rfl; have hcz49_4 : w43.cell? ⟨gb591, 4, none⟩ = some (.int .i64 0) := (blk_cell BK591.out 4).trans rfl; have hcz49_5 : w43.cell? ⟨gb591, 5, none⟩ = some (.slice none 0 0) := (blk_cell BK591.out 5).trans rfl; have hcz49_6 : w43.cell? ⟨gb591, 6, none⟩ = some (.slice none 0 0) := (blk_cell BK591.out 6).trans rfl; have hfz49_0 := blk_frozen BK591.out 0; have hfz49_1 := blk_frozen BK591.out 1; have hfz49_2 := blk_frozen BK591.out 2; have hfz49_3 := blk_frozen BK591.out 3; have hfz49_4 := blk_frozen BK591.out 4; have hfz49_5 := blk_frozen BK591.out 5; have hfz49_6 := blk_frozen BK591.out 6))
   refine bodyPost_ret (results_ct rfl _ _ gb591 39 #[.int .i64 0, .slice none 0 0, .slice none 0 0, .string (⟨#[]⟩ : ByteArray), .int .i64 0, .slice none 0 0, .slice none 0 0] (0, 0) _ rfl (by refine kK_ ?_; refine blk_put (cs := #[.int .i64 0, .slice none 0 0, .slice none 0 0, .string (⟨#[]⟩ : ByteArray), .int .i64 0, .slice none 0 0, .slice none 0 0]) ?_ 6 _ rfl; refine kK_ ?_; refine blk_put (cs := #[.int .i64 0, .slice none 0 0, .slice none 0 0, .string (⟨#[]⟩ : ByteArray), .int .i64 0, .slice none 0 0, .slice none 0 0]) ?_ 5 _ rfl; refine kK_ ?_; refine blk_put (cs := #[.int .i64 0, .slice none 0 0, .slice none 0 0, .string (⟨#[]⟩ : ByteArray), .int .i64 0, .slice none 0 0, .slice none 0 0]) ?_ 4 _ rfl; refine kK_ ?_; refine blk_put (cs := #[.int .i64 0, .slice none 0 0, .slice none 0 0, .string (⟨#[]⟩ : ByteArray), .int .i64 0, .slice none 0 0, .slice none 0 0]) ?_ 3 _ rfl; refine kK_ ?_; refine blk_put (cs := #[.int .i64 0, .slice none 0 0, .slice none 0 0, .string (⟨#[]⟩ : ByteArray), .int .i64 0, .slice none 0 0, .slice none 0 0]) ?_ 2 _ rfl; refine kK_ ?_; refine blk_put (cs := #[.int .i64 0, .slice none 0 0, .slice none 0 0, .string (⟨#[]⟩ : ByteArray), .int .i64 0, .slice none 0 0, .slice none 0 0]) ?_ 1 _ rfl; refine kK_ ?_; refine blk_put (cs := #[.int .i64 0, .slice none 0 0, .slice none 0 0, .string (⟨#[]⟩ : ByteArray), .int .i64 0, .slice none 0 0, .slice none 0 0]) ?_ 0 _ rfl; refine kK_ ?_; refine blk_far ?_ NB591_609.out _; refine kK_ ?_; refine blk_far ?_ NB591_609.out _; refine kK_ ?_; refine blk_far ?_ NB591_609.out _; exact rK_ BK591.out) Try.underlying39 rfl (by kernel_rfl)) rfl ?_
   exact ⟨_, _, _, _, by first | rfl | (simp [errW_none, errW_some] <;> rfl) | (simp [*, errW_none, errW_some] <;> rfl), by first | exact Kd.R_nil _ _ _ _ _ | exact Kd.N_nil _ _ _ _ _ | exact Kd.V_nil _ _ _ _ _ | exact Kd.Q_nil _ _ _ _ _ | exact Kd.S_nil _ _ _ _ _, by first | exact Kd.R_nil _ _ _ _ _ | exact Kd.N_nil _ _ _ _ _ | exact Kd.V_nil _ _ _ _ _ | exact Kd.Q_nil _ _ _ _ _ | exact Kd.S_nil _ _ _ _ _, by first | exact Kd.R_nil _ _ _ _ _ | exact Kd.N_nil _ _ _ _ _ | exact Kd.V_nil _ _ _ _ _ | exact Kd.Q_nil _ _ _ _ _ | exact Kd.S_nil _ _ _ _ _, by first | exact Kd.R_nil _ _ _ _ _ | exact Kd.N_nil _ _ _ _ _ | exact Kd.V_nil _ _ _ _ _ | exact Kd.Q_nil _ _ _ _ _ | exact Kd.S_nil _ _ _ _ _, (u9_ GE591.out GE600.out GE609.out)⟩
 ·replace c8 := Bool.eq_false_iff.mpr c8
  subst c8
  replace H := iF_ H
  simp only [Option.some.injEq, Prod.mk.injEq] at H
  obtain ⟨rfl, rfl, rfl, rfl, rfl, rfl, rfl, rfl⟩ := H
  go_enter Try.func22, Try.ntmps22
  go_wp2_with (first | ((with_reducible refine gate_dst (N := 2) rfl ?_); refine box_event ?hg (N := 2) ?hd (cs := #[.int .i64 0, .slice none 0 0, .slice none 0 0, .string (⟨#[]⟩ : ByteArray), .int .i64 0, .slice none 0 0, .slice none 0 0]) (t := 39) ?hr ?_; (case hd => rfl); (case hg => rfl); (case hr => first | (go_simp; done) | (go_simp; rfl)); intro gb591 hg w50 hbox hb; have n_ := b_ (below_step (hB_) hb) <| b_ (hbox) <| b_ (by rw [hg]; exact (below_size (hB_)) : w.heap.size ≤ gb591) <| c_ (by rw [hg]; exact (below_size (hB_)) : w.heap.size ≤ gb591); clear HB; obtain ⟨HB, BK591, GW591, GE591⟩ := n_; clear hb hbox hg) | ((with_reducible refine gate_callee (f := 46) rfl ?_); refine goesL_ (some 20) rfl rfl Try.func46 (by kernel_rfl) rfl #[.string (a0.extract 0 49)] rfl aM_ ?_; (with_reducible refine (spec_ReadSig.calls k (a0.extract 0 49) t592 t593 t596 false _ A5.out).mono ?_); rintro e w51 ⟨v594, v597, rfl, ho0, ho1, hb⟩; refine ⟨_, rfl, ?_⟩; have n_ := b_ (Kd.R_lower ho0 (below_size (hS_ GE591.out))) <| b_ (Kd.R_lower ho1 (below_size (hS_ GE591.out))) <| b_ (blk_below (g := gb591) (o := .cells #[.int .i64 0, .slice none 0 0, .slice none 0 0, .string (⟨#[]⟩ : ByteArray), .int .i64 0, .slice none 0 0, .slice none 0 0] 39 (0, 0)) (rK_ BK591.out) hb) <| c_ (below_step (hS_ GE591.out) hb); clear BK591 HB; obtain ⟨HO595, HO598, BK591, HB⟩ := n_; (try clear ho1)) | ((with_reducible refine gate_dst (N := 5) rfl ?_); refine box_event ?hg (N := 5) ?hd (cs := #[.int .i64 0, .slice none 0 0, .slice none 0 0]) (t := 37) ?hr ?_; (case hd => rfl); (case hg => rfl); (case hr => first | (go_simp; done) | (go_simp; rfl)); intro gb600 hg w52 hbox hb; have n_ := b_ (Kd.R_below (rR_ HO595.out) hb) <| b_ (Kd.R_below (rR_ HO598.out) hb) <| b_ (blk_below (g := gb591) (o := .cells #[.int .i64 0, .slice none 0 0, .slice none 0 0, .string (⟨#[]⟩ : ByteArray), .int .i64 0, .slice none 0 0, .slice none 0 0] 39 (0, 0)) (rK_ BK591.out) hb) <| b_ (below_step (hS_ GE591.out) hb) <| b_ (hbox) <| b_ (by rw [hg]; exact (below_size (hS_ GE591.out)) : w.heap.size ≤ gb600) <| b_ (by rw [hg]; exact (below_size (hS_ GE591.out)) : w.heap.size ≤ gb600) <| b_ (by rw [hg]; exact Nat.ne_of_lt (blk_lt (g := gb591) (o := .cells #[.int .i64 0, .slice none 0 0, .slice none 0 0, .string (⟨#[]⟩ : ByteArray), .int .i64 0, .slice none 0 0, .slice none 0 0] 39 (0, 0)) (rK_ BK591.out)) : gb591 ≠ gb600) <| c_ (by rw [hg]; exact Nat.ne_of_gt (blk_lt (g := gb591) (o := .cells #[.int .i64 0, .slice none 0 0, .slice none 0 0, .string (⟨#[]⟩ : ByteArray), .int .i64 0, .slice none 0 0, .slice none 0 0] 39 (0, 0)) (rK_ BK591.out)) : gb600 ≠ gb591); clear HO595 HO598 BK591 HB; obtain ⟨HO595, HO598, BK591, HB, BK600, GW600, GE600, NB591_600, NB600_591⟩ := n_; clear hb hbox hg; have hnb53 := NB600_591.out; have hnc53 := NB591_600.out; have hcz54_0 : w52.cell? ⟨gb600, 0, none⟩ = some (.int .i64 0) := (blk_cell BK600.out 0).trans rfl; have hcz54_1 : w52.cell? ⟨gb600, 1, none⟩ = some (.slice none 0 0) := (blk_cell BK600.out 1).trans rfl; have hcz54_2 : w52.cell? ⟨gb600, 2, none⟩ = some (.slice none 0 0) := (blk_cell BK600.out 2).trans rfl; have hfz54_0 := blk_frozen BK600.out 0; have hfz54_1 := blk_frozen BK600.out 1; have hfz54_2 := blk_frozen BK600.out 2; obtain ⟨Ao55, co55, eo55⟩ := Kd.R_slice HO595.out; subst eo55; obtain ⟨Ao56, co56, eo56⟩ := Kd.R_slice HO598.out; subst eo56) | ((with_reducible refine gate_callee (f := 46) rfl ?_); refine goesL_ (some 28) rfl rfl Try.func46 (by kernel_rfl) rfl #[.string (a0.extract 53 a0.size)] rfl aM_ ?_; (with_reducible refine (spec_ReadSig.calls k (a0.extract 53 a0.size) t601 t602 t605 t608 _ A7.out).mono ?_); rintro e w57 ⟨v603, v606, rfl, ho0, ho1, hb⟩; refine ⟨_, rfl, ?_⟩; have n_ := b_ (Kd.R_mono (Kd.R_told (Kd.R_told (Kd.R_old (by refine kR_ ?_; exact (Kd.R_mono (Kd.R_far (Kd.R_far (Kd.R_far (Kd.R_types HO595.out BK600.out (by decide)) (fun _ hk => hk.2) _) (fun _ hk => hk.2) _) (fun _ hk => hk.2) _) (fun _ h_ => h_.1))) hb) (Kd.R_base ho0)) (Kd.R_base ho1)) (fun _ h_ => h_.1)) <| b_ (Kd.R_mono (Kd.R_told (Kd.R_told (Kd.R_old (by refine kR_ ?_; exact (Kd.R_mono (Kd.R_far (Kd.R_far (Kd.R_far (Kd.R_types HO598.out BK600.out (by decide)) (fun _ hk => hk.2) _) (fun _ hk => hk.2) _) (fun _ hk => hk.2) _) (fun _ h_ => h_.1))) hb) (Kd.R_base ho0)) (Kd.R_base ho1)) (fun _ h_ => h_.1)) <| b_ (Kd.R_lower (Kd.R_new' (Kd.R_new' ho0 (Kd.R_lt (by refine kR_ ?_; exact (Kd.R_mono (Kd.R_far (Kd.R_far (Kd.R_far (Kd.R_types HO595.out BK600.out (by decide)) (fun _ hk => hk.2) _) (fun _ hk => hk.2) _) (fun _ hk => hk.2) _) (fun _ h_ => h_.1))))) (Kd.R_lt (by refine kR_ ?_; exact (Kd.R_mono (Kd.R_far (Kd.R_far (Kd.R_far (Kd.R_types HO598.out BK600.out (by decide)) (fun _ hk => hk.2) _) (fun _ hk => hk.2) _) (fun _ hk => hk.2) _) (fun _ h_ => h_.1))))) (below_size ((u4_ GE591.out GE600.out)))) <| b_ (Kd.R_lower (Kd.R_new' (Kd.R_new' ho1 (Kd.R_lt (by refine kR_ ?_; exact (Kd.R_mono (Kd.R_far (Kd.R_far (Kd.R_far (Kd.R_types HO595.out BK600.out (by decide)) (fun _ hk => hk.2) _) (fun _ hk => hk.2) _) (fun _ hk => hk.2) _) (fun _ h_ => h_.1))))) (Kd.R_lt (by refine kR_ ?_; exact (Kd.R_mono (Kd.R_far (Kd.R_far (Kd.R_far (Kd.R_types HO598.out BK600.out (by decide)) (fun _ hk => hk.2) _) (fun _ hk => hk.2) _) (fun _ hk => hk.2) _) (fun _ h_ => h_.1))))) (below_size ((u4_ GE591.out GE600.out)))) <| b_ (blk_below (g := gb591) (o := .cells #[.int .i64 0, .slice none 0 0, .slice none 0 0, .string (⟨#[]⟩ : ByteArray), .int .i64 0, .slice none 0 0, .slice none 0 0] 39 (0, 0)) (by refine kK_ ?_; refine blk_far ?_ NB591_600.out _; refine kK_ ?_; refine blk_far ?_ NB591_600.out _; refine kK_ ?_; refine blk_far ?_ NB591_600.out _; exact rK_ BK591.out) hb) <| b_ (blk_below (g := gb600) (o := .cells #[.int .i64 t592, .slice Ao55 t593.length co55, .slice Ao56 t596.length co56] 37 (0, 0)) (by refine kK_ ?_; refine blk_put (cs := #[.int .i64 t592, .slice Ao55 t593.length co55, .slice none 0 0]) ?_ 2 _ rfl; refine kK_ ?_; refine blk_put (cs := #[.int .i64 t592, .slice none 0 0, .slice none 0 0]) ?_ 1 _ rfl; refine kK_ ?_; refine blk_put (cs := #[.int .i64 0, .slice none 0 0, .slice none 0 0]) ?_ 0 _ rfl; exact rK_ BK600.out) hb) <| c_ (below_step ((u4_ GE591.out GE600.out)) hb); clear HO595 HO598 BK591 BK600 HB; obtain ⟨HO595, HO598, HO604, HO607, BK591, BK600, HB⟩ := n_; (try clear ho1)) | ((with_reducible refine gate_dst (N := 7) rfl ?_); refine box_event ?hg (N := 7) ?hd (cs := #[.int .i64 0, .slice none 0 0, .slice none 0 0]) (t := 37) ?hr ?_; (case hd => rfl); (case hg => rfl); (case hr => first | (go_simp; done) | (go_simp; rfl)); intro gb609 hg w58 hbox hb; have n_ := b_ (Kd.R_below (rR_ HO595.out) hb) <| b_ (Kd.R_below (rR_ HO598.out) hb) <| b_ (Kd.R_below (rR_ HO604.out) hb) <| b_ (Kd.R_below (rR_ HO607.out) hb) <| b_ (blk_below (g := gb591) (o := .cells #[.int .i64 0, .slice none 0 0, .slice none 0 0, .string (⟨#[]⟩ : ByteArray), .int .i64 0, .slice none 0 0, .slice none 0 0] 39 (0, 0)) (rK_ BK591.out) hb) <| b_ (blk_below (g := gb600) (o := .cells #[.int .i64 t592, .slice Ao55 t593.length co55, .slice Ao56 t596.length co56] 37 (0, 0)) (rK_ BK600.out) hb) <| b_ (below_step ((u4_ GE591.out GE600.out)) hb) <| b_ (hbox) <| b_ (by rw [hg]; exact (below_size ((u4_ GE591.out GE600.out))) : w.heap.size ≤ gb609) <| b_ (by rw [hg]; exact (below_size ((u4_ GE591.out GE600.out))) : w.heap.size ≤ gb609) <| b_ (by rw [hg]; exact Nat.ne_of_lt (blk_lt (g := gb591) (o := .cells #[.int .i64 0, .slice none 0 0, .slice none 0 0, .string (⟨#[]⟩ : ByteArray), .int .i64 0, .slice none 0 0, .slice none 0 0] 39 (0, 0)) (rK_ BK591.out)) : gb591 ≠ gb609) <| b_ (by rw [hg]; exact Nat.ne_of_gt (blk_lt (g := gb591) (o := .cells #[.int .i64 0, .slice none 0 0, .slice none 0 0, .string (⟨#[]⟩ : ByteArray), .int .i64 0, .slice none 0 0, .slice none 0 0] 39 (0, 0)) (rK_ BK591.out)) : gb609 ≠ gb591) <| b_ (by rw [hg]; exact Nat.ne_of_lt (blk_lt (g := gb600) (o := .cells #[.int .i64 t592, .slice Ao55 t593.length co55, .slice Ao56 t596.length co56] 37 (0, 0)) (rK_ BK600.out)) : gb600 ≠ gb609) <| c_ (by rw [hg]; exact Nat.ne_of_gt (blk_lt (g := gb600) (o := .cells #[.int .i64 t592, .slice Ao55 t593.length co55, .slice Ao56 t596.length co56] 37 (0, 0)) (rK_ BK600.out)) : gb609 ≠ gb600); clear HO595 HO598 HO604 HO607 BK591 BK600 HB; obtain ⟨HO595, HO598, HO604, HO607, BK591, BK600, HB, BK609, GW609, GE609, NB591_609, NB609_591, NB600_609, NB609_600⟩ := n_; clear hb hbox hg; have hnb59 := NB609_591.out; have hnc59 := NB591_609.out; have hnb60 := NB609_600.out; have hnc60 := NB600_609.out; have hcz61_0 : w58.cell? ⟨gb609, 0, none⟩ = some (.int .i64 0) := (blk_cell BK609.out 0).trans rfl; have hcz61_1 : w58.cell? ⟨gb609, 1, none⟩ = some (.slice none 0 0) := (blk_cell BK609.out 1).trans rfl; have hcz61_2 : w58.cell? ⟨gb609, 2, none⟩ = some (.slice none 0 0) := (blk_cell BK609.out 2).trans rfl; have hfz61_0 := blk_frozen BK609.out 0; have hfz61_1 := blk_frozen BK609.out 1; have hfz61_2 := blk_frozen BK609.out 2; obtain ⟨Ao62, co62, eo62⟩ := Kd.R_slice HO604.out; subst eo62; obtain ⟨Ao63, co63, eo63⟩ := Kd.R_slice HO607.out; subst eo63; have hcz64_0 : w58.cell? ⟨gb591, 0, none⟩ = some (.int .i64 0) := (blk_cell BK591.out 0).trans rfl; have hcz64_1 : w58.cell? ⟨gb591, 1, none⟩ = some (.slice none 0 0) := (blk_cell BK591.out 1).trans rfl; have hcz64_2 : w58.cell? ⟨gb591, 2, none⟩ = some (.slice none 0 0) := (blk_cell BK591.out 2).trans rfl; have hcz64_3 : w58.cell? ⟨gb591, 3, none⟩ = some (.string (⟨#[]⟩ : ByteArray)) := (blk_cell BK591.out 3).trans rfl; have hcz64_4 : w58.cell? ⟨gb591, 4, none⟩ = some (.int .i64 0) := (blk_cell BK591.out 4).trans rfl; have hcz64_5 : w58.cell? ⟨gb591, 5, none⟩ = some (.slice none 0 0) := (blk_cell BK591.out 5).trans rfl; have hcz64_6 : w58.cell? ⟨gb591, 6, none⟩ = some (.slice none 0 0) := (blk_cell BK591.out 6).trans rfl; have hfz64_0 := blk_frozen BK591.out 0; have hfz64_1 := blk_frozen BK591.out 1; have hfz64_2 := blk_frozen BK591.out 2; have hfz64_3 := blk_frozen BK591.out 3; have hfz64_4 := blk_frozen BK591.out 4; have hfz64_5 := blk_frozen BK591.out 5; have hfz64_6 := blk_frozen BK591.out 6))
  refine bodyPost_ret (results_ct rfl _ _ gb591 39 #[.int .i64 0, .slice none 0 0, .slice none 0 0, .string (⟨#[]⟩ : ByteArray), .int .i64 0, .slice none 0 0, .slice none 0 0] (0, 0) _ rfl (by refine kK_ ?_; refine blk_put (cs := #[.int .i64 0, .slice none 0 0, .slice none 0 0, .string (⟨#[]⟩ : ByteArray), .int .i64 0, .slice none 0 0, .slice none 0 0]) ?_ 6 _ rfl; refine kK_ ?_; refine blk_put (cs := #[.int .i64 0, .slice none 0 0, .slice none 0 0, .string (⟨#[]⟩ : ByteArray), .int .i64 0, .slice none 0 0, .slice none 0 0]) ?_ 5 _ rfl; refine kK_ ?_; refine blk_put (cs := #[.int .i64 0, .slice none 0 0, .slice none 0 0, .string (⟨#[]⟩ : ByteArray), .int .i64 0, .slice none 0 0, .slice none 0 0]) ?_ 4 _ rfl; refine kK_ ?_; refine blk_put (cs := #[.int .i64 0, .slice none 0 0, .slice none 0 0, .string (⟨#[]⟩ : ByteArray), .int .i64 0, .slice none 0 0, .slice none 0 0]) ?_ 3 _ rfl; refine kK_ ?_; refine blk_put (cs := #[.int .i64 0, .slice none 0 0, .slice none 0 0, .string (⟨#[]⟩ : ByteArray), .int .i64 0, .slice none 0 0, .slice none 0 0]) ?_ 2 _ rfl; refine kK_ ?_; refine blk_put (cs := #[.int .i64 0, .slice none 0 0, .slice none 0 0, .string (⟨#[]⟩ : ByteArray), .int .i64 0, .slice none 0 0, .slice none 0 0]) ?_ 1 _ rfl; refine kK_ ?_; refine blk_put (cs := #[.int .i64 0, .slice none 0 0, .slice none 0 0, .string (⟨#[]⟩ : ByteArray), .int .i64 0, .slice none 0 0, .slice none 0 0]) ?_ 0 _ rfl; refine kK_ ?_; refine blk_far ?_ NB591_609.out _; refine kK_ ?_; refine blk_far ?_ NB591_609.out _; refine kK_ ?_; refine blk_far ?_ NB591_609.out _; exact rK_ BK591.out) Try.underlying39 rfl (by kernel_rfl)) rfl ?_
  exact ⟨_, _, _, _, by first | rfl | (simp [errW_none, errW_some] <;> rfl) | (simp [*, errW_none, errW_some] <;> rfl), by first | exact Kd.R_nil _ _ _ _ _ | exact Kd.N_nil _ _ _ _ _ | exact Kd.V_nil _ _ _ _ _ | exact Kd.Q_nil _ _ _ _ _ | exact Kd.S_nil _ _ _ _ _, by first | exact Kd.R_nil _ _ _ _ _ | exact Kd.N_nil _ _ _ _ _ | exact Kd.V_nil _ _ _ _ _ | exact Kd.Q_nil _ _ _ _ _ | exact Kd.S_nil _ _ _ _ _, by first | exact Kd.R_nil _ _ _ _ _ | exact Kd.N_nil _ _ _ _ _ | exact Kd.V_nil _ _ _ _ _ | exact Kd.Q_nil _ _ _ _ _ | exact Kd.S_nil _ _ _ _ _, by first | exact Kd.R_nil _ _ _ _ _ | exact Kd.N_nil _ _ _ _ _ | exact Kd.V_nil _ _ _ _ _ | exact Kd.Q_nil _ _ _ _ _ | exact Kd.S_nil _ _ _ _ _, (u9_ GE591.out GE600.out GE609.out)⟩

/-! ### impl_allShort: function 84 -/
def impl_allShort.l0 : Nat → List ByteArray → Int → List ByteArray → Int → Int → Option (Bool)
 | 0, _, _, _, _, _ => none
 | k + 1, x0, x1, x7, x8, x9 => if x9 < x8 then (if 0 ≤ x9 then (if x9 < (x7.length : Int) then (if ((rdOf ByteArray.empty x7 x9).size : Int) = 4 then (impl_allShort.l0 k x0 x1 x7 x8 (wrap64 (x9 + 1))) else (some false)) else (none)) else (none)) else (some ((x0.length : Int) == x1))
def impl_allShort.f (k : Nat) (l0 : List ByteArray) (a1 : Int) : Option (Bool) := impl_allShort.l0 k l0 a1 l0 (l0.length : Int) 0
theorem impl_allShort.mono_l : ∀ k, (∀ y0 y1 y2 y3 y4, LeO (impl_allShort.l0 k y0 y1 y2 y3 y4) (impl_allShort.l0 (k + 1) y0 y1 y2 y3 y4))
 | 0 => fun _ _ _ _ _ r h => by simp [impl_allShort.l0] at h
 | k + 1 => by
  have ih0 := impl_allShort.mono_l k
  intros; unfold impl_allShort.l0; exact o1_ ih0
theorem impl_allShort.mono : ∀ a0 a1 k, LeO (impl_allShort.f k a0 a1) (impl_allShort.f (k + 1) a0 a1) := by
 intro a0 a1 k
 have ih0 := impl_allShort.mono_l k
 unfold impl_allShort.f
 exact o1_ ih0
theorem impl_allShort.calls (k : Nat) (A0 : Option Addr) (c0 : Nat) (l0 : List ByteArray) (a1 : Int) (r : Bool) (w : World) (hr0 : Kd.C Kd.string w A0 l0.length l0) (hc0 : l0.length ≤ c0) (h : impl_allShort.f k l0 a1 = some r) :
  Calls Try.prog 84 #[.slice A0 l0.length c0, .int .i64 a1] w fun e w' => e = .returned (.bool r) ∧ Drawn0 w w' := by
 have HR0 := Aside0.mk hr0
 have HC0 := Aside0.mk hc0
 clear hr0 hc0
 delta impl_allShort.f at h
 have H := h
 clear h
 have H' := Aside0.mk H
 clear H
 go_enter Try.func84, Try.ntmps84
 go_wp2
 go_loopg [9] k (fun kq v9 w' => ∃ (x9_1 : Int), v9 = .int .i64 x9_1 ∧ Aside0 (impl_allShort.l0 kq l0 a1 l0 (l0.length : Int) x9_1 = some r) ∧ Aside0 (kq ≤ k) ∧ Drawn0 w w')
 case atStart => exact ⟨(0), (by first | rfl | (simp; done) | (simp [*]; done)), H', ⟨Nat.le_refl _⟩, by repeat (first | exact Drawn0.refl _ | apply Drawn0.step)⟩
 case round =>
  clear H'
  obtain ⟨x9_1, rfl, HA, HK1, ⟨m1, rfl⟩⟩ := hrel
  cases gk with
  | zero => exact absurd HA.out (by simp [impl_allShort.l0])
  | succ k1 =>
   have H := HA.out
   clear HA
   simp only [impl_allShort.l0] at H
   by_cases c3 : x9_1 < (l0.length : Int)
   rotate_left
   ·rw [if_neg c3] at H
    have c3b0 := decide_eq_false c3
    clear c3
    obtain rfl := Option.some.inj H
    go_wp2
    go_ret
    exact ⟨by first | rfl | (simp; done) | (simp [*]; done), by repeat (first | exact Drawn0.refl _ | apply Drawn0.step)⟩
   rw [if_pos c3] at H
   have c3b0 := decide_eq_true c3
   clear c3
   obtain ⟨c4b0, H⟩ := iD_ H
   obtain ⟨c5b0, H⟩ := iD_ H
   by_cases c6 : ((rdOf ByteArray.empty l0 x9_1).size : Int) = 4
   ·rw [if_pos c6] at H
    have c6b0 : (((rdOf ByteArray.empty l0 x9_1).size : Int) == 4) = true := beq_iff_eq.mpr c6
    have c6b1 : (((rdOf ByteArray.empty l0 x9_1).size : Int) != 4) = false := bne_eq_false_iff_eq.mpr c6
    clear c6
    have H' := Aside0.mk H
    clear H
    have p613 : 0 ≤ (x9_1 : Int) := of_decide_eq_true (by first | (with_reducible assumption) | assumption)
    have q613 : x9_1 < (l0.length : Int) := of_decide_eq_true (by first | (with_reducible assumption) | assumption)
    obtain ⟨ad613, e613, hx613_0⟩ := Kd.at_string HR0.out x9_1 p613 q613
    cases e613
    replace p613 := eq_true p613
    replace q613 := eq_true q613
    go_wp2
    go_roundg k1
    case measure => have := HK1.out; omega
    case rel => exact ⟨(wrap64 (x9_1 + 1)), (by first | rfl | (simp; done) | (simp [*]; done)), H', ⟨by have := HK1.out; omega⟩, by repeat (first | exact Drawn0.refl _ | apply Drawn0.step)⟩
   rw [if_neg c6] at H
   have c6b0 : (((rdOf ByteArray.empty l0 x9_1).size : Int) == 4) = false := beq_eq_false_iff_ne.mpr c6
   have c6b1 : (((rdOf ByteArray.empty l0 x9_1).size : Int) != 4) = true := bne_iff_ne.mpr c6
   obtain rfl := Option.some.inj H
   have p613 : 0 ≤ (x9_1 : Int) := of_decide_eq_true (by first | (with_reducible assumption) | assumption)
   have q613 : x9_1 < (l0.length : Int) := of_decide_eq_true (by first | (with_reducible assumption) | assumption)
   obtain ⟨ad613, e613, hx613_0⟩ := Kd.at_string HR0.out x9_1 p613 q613
   cases e613
   replace p613 := eq_true p613
   replace q613 := eq_true q613
   go_wp2
   go_ret
   exact ⟨by first | rfl | (simp; done) | (simp [*]; done), by repeat (first | exact Drawn0.refl _ | apply Drawn0.step)⟩

/-! ### impl_SigOk: function 48 -/
def impl_SigOk.f (k : Nat) (a0_0 : Int) (l0_1 : List ByteArray) (l0_2 : List ByteArray) : Option (Bool) := (impl_in.f a0_0 0 3).bind fun t615 => (if t615 = true then ((impl_allShort.f k l0_1 10).bind fun t616 => (if t616 = true then ((impl_allShort.f k l0_2 2).bind fun t617 => (some t617)) else (some false))) else (some false))
theorem impl_SigOk.mono : ∀ a0 a1 a2 k, LeO (impl_SigOk.f k a0 a1 a2) (impl_SigOk.f (k + 1) a0 a1 a2) := by
 intro a0 a1 a2 k
 unfold impl_SigOk.f
 exact o1_ impl_allShort.mono
theorem impl_SigOk.calls (k : Nat) (a0_0 : Int) (A0_1 : Option Addr) (c0_1 : Nat) (l0_1 : List ByteArray) (A0_2 : Option Addr) (c0_2 : Nat) (l0_2 : List ByteArray) (r : Bool) (w : World) (hr0_1 : Kd.C Kd.string w A0_1 l0_1.length l0_1) (hc0_1 : l0_1.length ≤ c0_1) (hr0_2 : Kd.C Kd.string w A0_2 l0_2.length l0_2) (hc0_2 : l0_2.length ≤ c0_2) (h : impl_SigOk.f k a0_0 l0_1 l0_2 = some r) :
  Calls Try.prog 48 #[.agg #[.int .i64 a0_0, .slice A0_1 l0_1.length c0_1, .slice A0_2 l0_2.length c0_2]] w fun e w' => e = .returned (.bool r) ∧ Below w.heap.size w w' := by
 have hu37 := Try.underlying37
 have HR0_1 := Aside0.mk hr0_1
 have HC0_1 := Aside0.mk hc0_1
 clear hr0_1 hc0_1
 have HR0_2 := Aside0.mk hr0_2
 have HC0_2 := Aside0.mk hc0_2
 clear hr0_2 hc0_2
 have HB := Aside0.mk (Below.refl w.heap.size w)
 delta impl_SigOk.f at h
 have H := h
 clear h
 obtain ⟨t615, A2, H⟩ := bN_ H
 by_cases c3 : t615 = true
 ·subst c3
  replace H := iT_ H
  obtain ⟨t616, A4, H⟩ := bN_ H
  by_cases c5 : t616 = true
  ·subst c5
   replace H := iT_ H
   obtain ⟨t617, A6, H⟩ := bN_ H
   obtain rfl := Option.some.inj H
   go_enter Try.func48, Try.ntmps48
   go_wp2_with (first | ((with_reducible refine gate_dst (N := 1) rfl ?_); refine box_event ?hg (N := 1) ?hd (cs := #[.int .i64 a0_0, .slice A0_1 l0_1.length c0_1, .slice A0_2 l0_2.length c0_2]) (t := 37) ?hr ?_; (case hd => rfl); (case hg => rfl); (case hr => first | (go_simp; done) | (go_simp; rfl)); intro gb614 hg w7 hbox hb; have n_ := b_ (below_step (hB_) hb) <| b_ (hbox) <| b_ (by rw [hg]; exact (below_size (hB_)) : w.heap.size ≤ gb614) <| c_ (by rw [hg]; exact (below_size (hB_)) : w.heap.size ≤ gb614); clear HB; obtain ⟨HB, BK614, GW614, GE614⟩ := n_; clear hb hbox hg; have hcz8_0 : w7.cell? ⟨gb614, 0, none⟩ = some (.int .i64 a0_0) := (blk_cell BK614.out 0).trans rfl; have hcz8_1 : w7.cell? ⟨gb614, 1, none⟩ = some (.slice A0_1 l0_1.length c0_1) := (blk_cell BK614.out 1).trans rfl; have hcz8_2 : w7.cell? ⟨gb614, 2, none⟩ = some (.slice A0_2 l0_2.length c0_2) := (blk_cell BK614.out 2).trans rfl; have hfz8_0 := blk_frozen BK614.out 0; have hfz8_1 := blk_frozen BK614.out 1; have hfz8_2 := blk_frozen BK614.out 2) | ((with_reducible refine gate_callee (f := 41) rfl ?_); refine goesL_ (some 5) rfl rfl Try.func41 (by kernel_rfl) rfl #[.int .i64 a0_0, .int .i64 0, .int .i64 3] rfl aM_ ?_; (with_reducible refine (impl_in.calls a0_0 0 3 true _ A2.out).mono ?_); rintro e w' ⟨rfl, ⟨nd, rfl⟩⟩; refine ⟨_, rfl, ?_⟩) | (go_at_call 84; (with_reducible refine (impl_allShort.calls k _ _ l0_1 10 true _ ?side1 ?side2 A4.out).mono ?_); (case side1 => exact cR_ (Kd.C_below HR0_1.out (hS_ GE614.out))); (case side2 => exact HC0_1.out); rintro e w' ⟨rfl, ⟨nd, rfl⟩⟩) | (go_at_call 84; (with_reducible refine (impl_allShort.calls k _ _ l0_2 2 t617 _ ?side1 ?side2 A6.out).mono ?_); (case side1 => exact cR_ (Kd.C_below HR0_2.out (hS_ GE614.out))); (case side2 => exact HC0_2.out); rintro e w' ⟨rfl, ⟨nd, rfl⟩⟩))
   go_ret
   exact ⟨by first | rfl | (simp [errW_none, errW_some] <;> rfl) | (simp [*, errW_none, errW_some] <;> rfl), hS_ GE614.out⟩
  ·replace c5 := Bool.eq_false_iff.mpr c5
   subst c5
   replace H := iF_ H
   obtain rfl := Option.some.inj H
   go_enter Try.func48, Try.ntmps48
   go_wp2_with (first | ((with_reducible refine gate_dst (N := 1) rfl ?_); refine box_event ?hg (N := 1) ?hd (cs := #[.int .i64 a0_0, .slice A0_1 l0_1.length c0_1, .slice A0_2 l0_2.length c0_2]) (t := 37) ?hr ?_; (case hd => rfl); (case hg => rfl); (case hr => first | (go_simp; done) | (go_simp; rfl)); intro gb614 hg w9 hbox hb; have n_ := b_ (below_step (hB_) hb) <| b_ (hbox) <| b_ (by rw [hg]; exact (below_size (hB_)) : w.heap.size ≤ gb614) <| c_ (by rw [hg]; exact (below_size (hB_)) : w.heap.size ≤ gb614); clear HB; obtain ⟨HB, BK614, GW614, GE614⟩ := n_; clear hb hbox hg; have hcz10_0 : w9.cell? ⟨gb614, 0, none⟩ = some (.int .i64 a0_0) := (blk_cell BK614.out 0).trans rfl; have hcz10_1 : w9.cell? ⟨gb614, 1, none⟩ = some (.slice A0_1 l0_1.length c0_1) := (blk_cell BK614.out 1).trans rfl; have hcz10_2 : w9.cell? ⟨gb614, 2, none⟩ = some (.slice A0_2 l0_2.length c0_2) := (blk_cell BK614.out 2).trans rfl; have hfz10_0 := blk_frozen BK614.out 0; have hfz10_1 := blk_frozen BK614.out 1; have hfz10_2 := blk_frozen BK614.out 2) | ((with_reducible refine gate_callee (f := 41) rfl ?_); refine goesL_ (some 5) rfl rfl Try.func41 (by kernel_rfl) rfl #[.int .i64 a0_0, .int .i64 0, .int .i64 3] rfl aM_ ?_; (with_reducible refine (impl_in.calls a0_0 0 3 true _ A2.out).mono ?_); rintro e w' ⟨rfl, ⟨nd, rfl⟩⟩; refine ⟨_, rfl, ?_⟩) | (go_at_call 84; (with_reducible refine (impl_allShort.calls k _ _ l0_1 10 false _ ?side1 ?side2 A4.out).mono ?_); (case side1 => exact cR_ (Kd.C_below HR0_1.out (hS_ GE614.out))); (case side2 => exact HC0_1.out); rintro e w' ⟨rfl, ⟨nd, rfl⟩⟩))
   go_ret
   exact ⟨by first | rfl | (simp [errW_none, errW_some] <;> rfl) | (simp [*, errW_none, errW_some] <;> rfl), hS_ GE614.out⟩
 ·replace c3 := Bool.eq_false_iff.mpr c3
  subst c3
  replace H := iF_ H
  obtain rfl := Option.some.inj H
  go_enter Try.func48, Try.ntmps48
  go_wp2_with (first | ((with_reducible refine gate_dst (N := 1) rfl ?_); refine box_event ?hg (N := 1) ?hd (cs := #[.int .i64 a0_0, .slice A0_1 l0_1.length c0_1, .slice A0_2 l0_2.length c0_2]) (t := 37) ?hr ?_; (case hd => rfl); (case hg => rfl); (case hr => first | (go_simp; done) | (go_simp; rfl)); intro gb614 hg w11 hbox hb; have n_ := b_ (below_step (hB_) hb) <| b_ (hbox) <| b_ (by rw [hg]; exact (below_size (hB_)) : w.heap.size ≤ gb614) <| c_ (by rw [hg]; exact (below_size (hB_)) : w.heap.size ≤ gb614); clear HB; obtain ⟨HB, BK614, GW614, GE614⟩ := n_; clear hb hbox hg; have hcz12_0 : w11.cell? ⟨gb614, 0, none⟩ = some (.int .i64 a0_0) := (blk_cell BK614.out 0).trans rfl; have hcz12_1 : w11.cell? ⟨gb614, 1, none⟩ = some (.slice A0_1 l0_1.length c0_1) := (blk_cell BK614.out 1).trans rfl; have hcz12_2 : w11.cell? ⟨gb614, 2, none⟩ = some (.slice A0_2 l0_2.length c0_2) := (blk_cell BK614.out 2).trans rfl; have hfz12_0 := blk_frozen BK614.out 0; have hfz12_1 := blk_frozen BK614.out 1; have hfz12_2 := blk_frozen BK614.out 2) | ((with_reducible refine gate_callee (f := 41) rfl ?_); refine goesL_ (some 5) rfl rfl Try.func41 (by kernel_rfl) rfl #[.int .i64 a0_0, .int .i64 0, .int .i64 3] rfl aM_ ?_; (with_reducible refine (impl_in.calls a0_0 0 3 false _ A2.out).mono ?_); rintro e w' ⟨rfl, ⟨nd, rfl⟩⟩; refine ⟨_, rfl, ?_⟩))
  go_ret
  exact ⟨by first | rfl | (simp [errW_none, errW_some] <;> rfl) | (simp [*, errW_none, errW_some] <;> rfl), hS_ GE614.out⟩

/-! ### impl_SigText: function 47 -/
mutual
def impl_SigText.l0 : Nat → ByteArray → List ByteArray → Int → Int → Int → List ByteArray → List ByteArray → Option (ByteArray × Bool)
 | 0, _, _, _, _, _, _, _ => none
 | k + 1, x4, x16, x17, x18, x619000, x619001, x619002 => if x18 < x17 then (if 0 ≤ x18 then (if x18 < (x16.length : Int) then (if x4.size + (rdOf ByteArray.empty x16 x18).size ≤ 9223372036854775807 then (impl_SigText.l0 k (x4 ++ (rdOf ByteArray.empty x16 x18)) x16 x17 (wrap64 (x18 + 1)) x619000 x619001 x619002) else (none)) else (none)) else (none)) else (impl_SigText.l1 k x4 x619002 (x619002.length : Int) 0)
def impl_SigText.l1 : Nat → ByteArray → List ByteArray → Int → Int → Option (ByteArray × Bool)
 | 0, _, _, _, _ => none
 | k + 1, x4, x27, x28, x29 => if x29 < x28 then (if 0 ≤ x29 then (if x29 < (x27.length : Int) then (if x4.size + (rdOf ByteArray.empty x27 x29).size ≤ 9223372036854775807 then (impl_SigText.l1 k (x4 ++ (rdOf ByteArray.empty x27 x29)) x27 x28 (wrap64 (x29 + 1))) else (none)) else (none)) else (none)) else (some (x4, true))
end
def impl_SigText.f (k : Nat) (a0_0 : Int) (l0_1 : List ByteArray) (l0_2 : List ByteArray) : Option (ByteArray × Bool) := (impl_SigOk.f k a0_0 l0_1 l0_2).bind fun t619 => (if t619 = true then ((impl_oneByte.f a0_0).bind fun t620 => (impl_SigText.l0 k t620 l0_1 (l0_1.length : Int) 0 a0_0 l0_1 l0_2)) else (some ((⟨#[]⟩ : ByteArray), false)))
theorem impl_SigText.mono_l : ∀ k, (∀ y0 y1 y2 y3 y4 y5 y6, LeO (impl_SigText.l0 k y0 y1 y2 y3 y4 y5 y6) (impl_SigText.l0 (k + 1) y0 y1 y2 y3 y4 y5 y6)) ∧ (∀ y0 y1 y2 y3, LeO (impl_SigText.l1 k y0 y1 y2 y3) (impl_SigText.l1 (k + 1) y0 y1 y2 y3))
 | 0 => ⟨fun _ _ _ _ _ _ _ r h => by simp [impl_SigText.l0] at h, fun _ _ _ _ r h => by simp [impl_SigText.l1] at h⟩
 | k + 1 => by
  obtain ⟨ih0, ih1⟩ := impl_SigText.mono_l k
  refine ⟨?_, ?_⟩ <;> (intros; (first | unfold impl_SigText.l0 | unfold impl_SigText.l1); exact o3_ ih0 ih1 impl_SigOk.mono)
theorem impl_SigText.mono : ∀ a0 a1 a2 k, LeO (impl_SigText.f k a0 a1 a2) (impl_SigText.f (k + 1) a0 a1 a2) := by
 intro a0 a1 a2 k
 obtain ⟨ih0, ih1⟩ := impl_SigText.mono_l k
 unfold impl_SigText.f
 exact o3_ ih0 ih1 impl_SigOk.mono
theorem impl_SigText.calls (k : Nat) (a0_0 : Int) (A0_1 : Option Addr) (c0_1 : Nat) (l0_1 : List ByteArray) (A0_2 : Option Addr) (c0_2 : Nat) (l0_2 : List ByteArray) (r1 : ByteArray) (r2 : Bool) (w : World) (hr0_1 : Kd.C Kd.string w A0_1 l0_1.length l0_1) (hc0_1 : l0_1.length ≤ c0_1) (hr0_2 : Kd.C Kd.string w A0_2 l0_2.length l0_2) (hc0_2 : l0_2.length ≤ c0_2) (h : impl_SigText.f k a0_0 l0_1 l0_2 = some (r1, r2)) :
  Calls Try.prog 47 #[.agg #[.int .i64 a0_0, .slice A0_1 l0_1.length c0_1, .slice A0_2 l0_2.length c0_2]] w fun e w' => e = .returned (.tuple #[.string r1, .bool r2]) ∧ Below w.heap.size w w' := by
 have hu37 := Try.underlying37
 have HR0_1 := Aside0.mk hr0_1
 have HC0_1 := Aside0.mk hc0_1
 clear hr0_1 hc0_1
 have HR0_2 := Aside0.mk hr0_2
 have HC0_2 := Aside0.mk hc0_2
 clear hr0_2 hc0_2
 have HB := Aside0.mk (Below.refl w.heap.size w)
 delta impl_SigText.f at h
 have H := h
 clear h
 obtain ⟨t619, A2, H⟩ := bN_ H
 by_cases c3 : t619 = true
 ·subst c3
  replace H := iT_ H
  obtain ⟨t620, A4, H⟩ := bN_ H
  have H' := Aside0.mk H
  clear H
  go_enter Try.func47, Try.ntmps47
  go_wp2_with (first | ((with_reducible refine gate_dst (N := 1) rfl ?_); refine box_event ?hg (N := 1) ?hd (cs := #[.int .i64 a0_0, .slice A0_1 l0_1.length c0_1, .slice A0_2 l0_2.length c0_2]) (t := 37) ?hr ?_; (case hd => rfl); (case hg => rfl); (case hr => first | (go_simp; done) | (go_simp; rfl)); intro gb618 hg w5 hbox hb; have n_ := b_ (below_step (hB_) hb) <| b_ (hbox) <| b_ (by rw [hg]; exact (below_size (hB_)) : w.heap.size ≤ gb618) <| c_ (by rw [hg]; exact (below_size (hB_)) : w.heap.size ≤ gb618); clear HB; obtain ⟨HB, BK618, GW618, GE618⟩ := n_; clear hb hbox hg; have hcz6_0 : w5.cell? ⟨gb618, 0, none⟩ = some (.int .i64 a0_0) := (blk_cell BK618.out 0).trans rfl; have hcz6_1 : w5.cell? ⟨gb618, 1, none⟩ = some (.slice A0_1 l0_1.length c0_1) := (blk_cell BK618.out 1).trans rfl; have hcz6_2 : w5.cell? ⟨gb618, 2, none⟩ = some (.slice A0_2 l0_2.length c0_2) := (blk_cell BK618.out 2).trans rfl; have hfz6_0 := blk_frozen BK618.out 0; have hfz6_1 := blk_frozen BK618.out 1; have hfz6_2 := blk_frozen BK618.out 2) | ((with_reducible refine gate_callee (f := 48) rfl ?_); refine goesL_ (some 10) rfl rfl Try.func48 (by kernel_rfl) rfl #[.agg #[.int .i64 a0_0, .slice A0_1 l0_1.length c0_1, .slice A0_2 l0_2.length c0_2]] rfl aM_ ?_; (with_reducible refine (impl_SigOk.calls k a0_0 _ _ l0_1 _ _ l0_2 true _ ?side1 ?side2 ?side3 ?side4 A2.out).mono ?_); (case side1 => exact cR_ (Kd.C_below HR0_1.out HB.out)); (case side2 => exact HC0_1.out); (case side3 => exact cR_ (Kd.C_below HR0_2.out HB.out)); (case side4 => exact HC0_2.out); rintro e w7 ⟨rfl, hb⟩; refine ⟨_, rfl, ?_⟩; have n_ := b_ (blk_below (g := gb618) (o := .cells #[.int .i64 a0_0, .slice A0_1 l0_1.length c0_1, .slice A0_2 l0_2.length c0_2] 37 (0, 0)) (rK_ BK618.out) hb) <| c_ (below_step (hS_ GE618.out) hb); clear BK618 HB; obtain ⟨BK618, HB⟩ := n_; have hcz8_0 : w7.cell? ⟨gb618, 0, none⟩ = some (.int .i64 a0_0) := (blk_cell BK618.out 0).trans rfl; have hcz8_1 : w7.cell? ⟨gb618, 1, none⟩ = some (.slice A0_1 l0_1.length c0_1) := (blk_cell BK618.out 1).trans rfl; have hcz8_2 : w7.cell? ⟨gb618, 2, none⟩ = some (.slice A0_2 l0_2.length c0_2) := (blk_cell BK618.out 2).trans rfl; have hfz8_0 := blk_frozen BK618.out 0; have hfz8_1 := blk_frozen BK618.out 1; have hfz8_2 := blk_frozen BK618.out 2) | ((with_reducible refine gate_callee (f := 32) rfl ?_); refine goesL_ (some 14) rfl rfl Try.func32 (by kernel_rfl) rfl #[.int .i64 a0_0] rfl aM_ ?_; (with_reducible refine (impl_oneByte.calls a0_0 t620 _ A4.out).mono ?_); rintro e w9 ⟨rfl, hb⟩; refine ⟨_, rfl, ?_⟩; have n_ := b_ (blk_below (g := gb618) (o := .cells #[.int .i64 a0_0, .slice A0_1 l0_1.length c0_1, .slice A0_2 l0_2.length c0_2] 37 (0, 0)) (rK_ BK618.out) hb) <| c_ (below_step (hS_ GE618.out) hb); clear BK618 HB; obtain ⟨BK618, HB⟩ := n_; have hcz10_0 : w9.cell? ⟨gb618, 0, none⟩ = some (.int .i64 a0_0) := (blk_cell BK618.out 0).trans rfl; have hcz10_1 : w9.cell? ⟨gb618, 1, none⟩ = some (.slice A0_1 l0_1.length c0_1) := (blk_cell BK618.out 1).trans rfl; have hcz10_2 : w9.cell? ⟨gb618, 2, none⟩ = some (.slice A0_2 l0_2.length c0_2) := (blk_cell BK618.out 2).trans rfl; have hfz10_0 := blk_frozen BK618.out 0; have hfz10_1 := blk_frozen BK618.out 1; have hfz10_2 := blk_frozen BK618.out 2))
  go_loopg [4, 18] k (fun kq v4 v18 w' => ∃ (x4_1 : ByteArray) (x18_1 : Int), v4 = .string x4_1 ∧ v18 = .int .i64 x18_1 ∧ Aside0 (impl_SigText.l0 kq x4_1 l0_1 (l0_1.length : Int) x18_1 a0_0 l0_1 l0_2 = some (r1, r2)) ∧ Aside0 (kq ≤ k) ∧ Aside0 (w'.heap[gb618]? = some (.cells #[.int .i64 a0_0, (.slice A0_1 l0_1.length c0_1), (.slice A0_2 l0_2.length c0_2)] 37 (0, 0))) ∧ Aside0 (Below w.heap.size w w'))
  case atStart => exact ⟨(t620), (0), (by first | rfl | (simp; done) | (simp [*]; done)), (by first | rfl | (simp; done) | (simp [*]; done)), H', ⟨Nat.le_refl _⟩, ⟨by refine kK_ ?_; exact BK618.out⟩, ⟨hS_ GE618.out⟩⟩
  case round =>
   clear H'
   obtain ⟨x4_1, x18_1, rfl, rfl, HA, HK1, BK618, HB⟩ := hrel
   cases gk with
   | zero => exact absurd HA.out (by simp [impl_SigText.l0])
   | succ k1 =>
    have H := HA.out
    clear HA
    simp only [impl_SigText.l0] at H
    by_cases c11 : x18_1 < (l0_1.length : Int)
    ·rw [if_pos c11] at H
     have c11b0 := decide_eq_true c11
     clear c11
     obtain ⟨c12b0, H⟩ := iD_ H
     obtain ⟨c13b0, H⟩ := iD_ H
     obtain ⟨c14, H⟩ := iN_ H
     have c14b0 := eq_true c14
     have c14b1 := decide_eq_true c14
     try have c14b2 : (9223372036854775807 < x4_1.size + (rdOf ByteArray.empty l0_1 x18_1).size) = False := eq_false (Nat.not_lt.2 c14)
     have H' := Aside0.mk H
     clear H
     have p621 : 0 ≤ (x18_1 : Int) := of_decide_eq_true (by first | (with_reducible assumption) | assumption)
     have q621 : x18_1 < (l0_1.length : Int) := of_decide_eq_true (by first | (with_reducible assumption) | assumption)
     obtain ⟨ad621, e621, hx621_0⟩ := Kd.at_string HR0_1.out x18_1 p621 q621
     cases e621
     replace hx621_0 := (HB.out.cell (World.block_lt_of_cell? w _ hx621_0)).trans hx621_0
     replace p621 := eq_true p621
     replace q621 := eq_true q621
     go_wp2
     go_roundg k1
     case measure => have := HK1.out; omega
     case rel => exact ⟨(x4_1 ++ (rdOf ByteArray.empty l0_1 x18_1)), (wrap64 (x18_1 + 1)), (by first | rfl | (simp; done) | (simp [*]; done)), (by first | rfl | (simp; done) | (simp [*]; done)), H', ⟨by have := HK1.out; omega⟩, ⟨by refine kK_ ?_; exact BK618.out⟩, ⟨hS_ GE618.out⟩⟩
    rw [if_neg c11] at H
    have c11b0 := decide_eq_false c11
    clear c11
    have H' := Aside0.mk H
    clear H
    have hcz15_0 : wr.cell? ⟨gb618, 0, none⟩ = some (.int .i64 a0_0) := (blk_cell BK618.out 0).trans rfl
    have hcz15_1 : wr.cell? ⟨gb618, 1, none⟩ = some (.slice A0_1 l0_1.length c0_1) := (blk_cell BK618.out 1).trans rfl
    have hcz15_2 : wr.cell? ⟨gb618, 2, none⟩ = some (.slice A0_2 l0_2.length c0_2) := (blk_cell BK618.out 2).trans rfl
    have hfz15_0 := blk_frozen BK618.out 0
    have hfz15_1 := blk_frozen BK618.out 1
    have hfz15_2 := blk_frozen BK618.out 2
    go_wp2
    go_loopg [4, 29] k1 (fun kq v4 v29 w' => ∃ (x4_2 : ByteArray) (x29_2 : Int), v4 = .string x4_2 ∧ v29 = .int .i64 x29_2 ∧ Aside0 (impl_SigText.l1 kq x4_2 l0_2 (l0_2.length : Int) x29_2 = some (r1, r2)) ∧ Aside0 (kq ≤ k1) ∧ Aside0 (w'.heap[gb618]? = some (.cells #[.int .i64 a0_0, (.slice A0_1 l0_1.length c0_1), (.slice A0_2 l0_2.length c0_2)] 37 (0, 0))) ∧ Aside0 (Below w.heap.size w w'))
    case atStart => exact ⟨(x4_1), (0), (by first | rfl | (simp; done) | (simp [*]; done)), (by first | rfl | (simp; done) | (simp [*]; done)), H', ⟨Nat.le_refl _⟩, ⟨by refine kK_ ?_; exact BK618.out⟩, ⟨hS_ GE618.out⟩⟩
    case round =>
     clear H'
     obtain ⟨x4_2, x29_2, rfl, rfl, HA, HK2, BK618, HB⟩ := hrel
     cases gk with
     | zero => exact absurd HA.out (by simp [impl_SigText.l1])
     | succ k2 =>
      have H := HA.out
      clear HA
      simp only [impl_SigText.l1] at H
      by_cases c16 : x29_2 < (l0_2.length : Int)
      ·rw [if_pos c16] at H
       have c16b0 := decide_eq_true c16
       clear c16
       obtain ⟨c17b0, H⟩ := iD_ H
       obtain ⟨c18b0, H⟩ := iD_ H
       obtain ⟨c19, H⟩ := iN_ H
       have c19b0 := eq_true c19
       have c19b1 := decide_eq_true c19
       try have c19b2 : (9223372036854775807 < x4_2.size + (rdOf ByteArray.empty l0_2 x29_2).size) = False := eq_false (Nat.not_lt.2 c19)
       have H' := Aside0.mk H
       clear H
       have p622 : 0 ≤ (x29_2 : Int) := of_decide_eq_true (by first | (with_reducible assumption) | assumption)
       have q622 : x29_2 < (l0_2.length : Int) := of_decide_eq_true (by first | (with_reducible assumption) | assumption)
       obtain ⟨ad622, e622, hx622_0⟩ := Kd.at_string HR0_2.out x29_2 p622 q622
       cases e622
       replace hx622_0 := (HB.out.cell (World.block_lt_of_cell? w _ hx622_0)).trans hx622_0
       replace p622 := eq_true p622
       replace q622 := eq_true q622
       go_wp2
       go_roundg k2
       case measure => have := HK1.out; have := HK2.out; omega
       case rel => exact ⟨(x4_2 ++ (rdOf ByteArray.empty l0_2 x29_2)), (wrap64 (x29_2 + 1)), (by first | rfl | (simp; done) | (simp [*]; done)), (by first | rfl | (simp; done) | (simp [*]; done)), H', ⟨by have := HK1.out; have := HK2.out; omega⟩, ⟨by refine kK_ ?_; exact BK618.out⟩, ⟨hS_ GE618.out⟩⟩
      rw [if_neg c16] at H
      have c16b0 := decide_eq_false c16
      clear c16
      simp only [Option.some.injEq, Prod.mk.injEq] at H
      obtain ⟨rfl, rfl⟩ := H
      go_wp2
      go_ret2
      exact ⟨by first | rfl | (simp [errW_none, errW_some] <;> rfl) | (simp [*, errW_none, errW_some] <;> rfl), hS_ GE618.out⟩
 ·replace c3 := Bool.eq_false_iff.mpr c3
  subst c3
  replace H := iF_ H
  simp only [Option.some.injEq, Prod.mk.injEq] at H
  obtain ⟨rfl, rfl⟩ := H
  go_enter Try.func47, Try.ntmps47
  go_wp2_with (first | ((with_reducible refine gate_dst (N := 1) rfl ?_); refine box_event ?hg (N := 1) ?hd (cs := #[.int .i64 a0_0, .slice A0_1 l0_1.length c0_1, .slice A0_2 l0_2.length c0_2]) (t := 37) ?hr ?_; (case hd => rfl); (case hg => rfl); (case hr => first | (go_simp; done) | (go_simp; rfl)); intro gb618 hg w20 hbox hb; have n_ := b_ (below_step (hB_) hb) <| b_ (hbox) <| b_ (by rw [hg]; exact (below_size (hB_)) : w.heap.size ≤ gb618) <| c_ (by rw [hg]; exact (below_size (hB_)) : w.heap.size ≤ gb618); clear HB; obtain ⟨HB, BK618, GW618, GE618⟩ := n_; clear hb hbox hg; have hcz21_0 : w20.cell? ⟨gb618, 0, none⟩ = some (.int .i64 a0_0) := (blk_cell BK618.out 0).trans rfl; have hcz21_1 : w20.cell? ⟨gb618, 1, none⟩ = some (.slice A0_1 l0_1.length c0_1) := (blk_cell BK618.out 1).trans rfl; have hcz21_2 : w20.cell? ⟨gb618, 2, none⟩ = some (.slice A0_2 l0_2.length c0_2) := (blk_cell BK618.out 2).trans rfl; have hfz21_0 := blk_frozen BK618.out 0; have hfz21_1 := blk_frozen BK618.out 1; have hfz21_2 := blk_frozen BK618.out 2) | ((with_reducible refine gate_callee (f := 48) rfl ?_); refine goesL_ (some 10) rfl rfl Try.func48 (by kernel_rfl) rfl #[.agg #[.int .i64 a0_0, .slice A0_1 l0_1.length c0_1, .slice A0_2 l0_2.length c0_2]] rfl aM_ ?_; (with_reducible refine (impl_SigOk.calls k a0_0 _ _ l0_1 _ _ l0_2 false _ ?side1 ?side2 ?side3 ?side4 A2.out).mono ?_); (case side1 => exact cR_ (Kd.C_below HR0_1.out HB.out)); (case side2 => exact HC0_1.out); (case side3 => exact cR_ (Kd.C_below HR0_2.out HB.out)); (case side4 => exact HC0_2.out); rintro e w22 ⟨rfl, hb⟩; refine ⟨_, rfl, ?_⟩; have n_ := b_ (blk_below (g := gb618) (o := .cells #[.int .i64 a0_0, .slice A0_1 l0_1.length c0_1, .slice A0_2 l0_2.length c0_2] 37 (0, 0)) (rK_ BK618.out) hb) <| c_ (below_step (hS_ GE618.out) hb); clear BK618 HB; obtain ⟨BK618, HB⟩ := n_; (try clear hb)))
  go_ret2
  exact ⟨by first | rfl | (simp [errW_none, errW_some] <;> rfl) | (simp [*, errW_none, errW_some] <;> rfl), hS_ GE618.out⟩

/-! ### impl_HyperText: function 23 -/
def impl_HyperText.f (k : Nat) (a0_0 : Int) (l0_1 : List ByteArray) (l0_2 : List ByteArray) (a0_3 : ByteArray) (a0_4 : Int) (l0_5 : List ByteArray) (l0_6 : List ByteArray) : Option (ByteArray × Bool) := (impl_SigText.f k a0_0 l0_1 l0_2).bind fun bt624 => ((impl_SigText.f k a0_4 l0_5 l0_6).bind fun bt626 => (if bt624.2 = true then (if bt626.2 = true then (if (a0_3.size : Int) = 4 then (if bt624.1.size + a0_3.size ≤ 9223372036854775807 then (if (bt624.1 ++ a0_3).size + bt626.1.size ≤ 9223372036854775807 then (some ((bt624.1 ++ a0_3) ++ bt626.1, true)) else (none)) else (none)) else (some ((⟨#[]⟩ : ByteArray), false))) else (some ((⟨#[]⟩ : ByteArray), false))) else (some ((⟨#[]⟩ : ByteArray), false))))
theorem impl_HyperText.mono : ∀ a0 a1 a2 a3 a4 a5 a6 k, LeO (impl_HyperText.f k a0 a1 a2 a3 a4 a5 a6) (impl_HyperText.f (k + 1) a0 a1 a2 a3 a4 a5 a6) := by
 intro a0 a1 a2 a3 a4 a5 a6 k
 unfold impl_HyperText.f
 exact o1_ impl_SigText.mono
theorem impl_HyperText.calls (k : Nat) (a0_0 : Int) (A0_1 : Option Addr) (c0_1 : Nat) (l0_1 : List ByteArray) (A0_2 : Option Addr) (c0_2 : Nat) (l0_2 : List ByteArray) (a0_3 : ByteArray) (a0_4 : Int) (A0_5 : Option Addr) (c0_5 : Nat) (l0_5 : List ByteArray) (A0_6 : Option Addr) (c0_6 : Nat) (l0_6 : List ByteArray) (r1 : ByteArray) (r2 : Bool) (w : World) (hr0_1 : Kd.C Kd.string w A0_1 l0_1.length l0_1) (hc0_1 : l0_1.length ≤ c0_1) (hr0_2 : Kd.C Kd.string w A0_2 l0_2.length l0_2) (hc0_2 : l0_2.length ≤ c0_2) (hr0_5 : Kd.C Kd.string w A0_5 l0_5.length l0_5) (hc0_5 : l0_5.length ≤ c0_5) (hr0_6 : Kd.C Kd.string w A0_6 l0_6.length l0_6) (hc0_6 : l0_6.length ≤ c0_6) (h : impl_HyperText.f k a0_0 l0_1 l0_2 a0_3 a0_4 l0_5 l0_6 = some (r1, r2)) :
  Calls Try.prog 23 #[.agg #[.int .i64 a0_0, .slice A0_1 l0_1.length c0_1, .slice A0_2 l0_2.length c0_2, .string a0_3, .int .i64 a0_4, .slice A0_5 l0_5.length c0_5, .slice A0_6 l0_6.length c0_6]] w fun e w' => e = .returned (.tuple #[.string r1, .bool r2]) ∧ Below w.heap.size w w' := by
 have hu39 := Try.underlying39
 have hu37 := Try.underlying37
 have HR0_1 := Aside0.mk hr0_1
 have HC0_1 := Aside0.mk hc0_1
 clear hr0_1 hc0_1
 have HR0_2 := Aside0.mk hr0_2
 have HC0_2 := Aside0.mk hc0_2
 clear hr0_2 hc0_2
 have HR0_5 := Aside0.mk hr0_5
 have HC0_5 := Aside0.mk hc0_5
 clear hr0_5 hc0_5
 have HR0_6 := Aside0.mk hr0_6
 have HC0_6 := Aside0.mk hc0_6
 clear hr0_6 hc0_6
 have HB := Aside0.mk (Below.refl w.heap.size w)
 delta impl_HyperText.f at h
 have H := h
 clear h
 obtain ⟨⟨t624, t625⟩, A2, H⟩ := bN_ H
 obtain ⟨⟨t626, t627⟩, A3, H⟩ := bN_ H
 by_cases c4 : t625 = true
 ·subst c4
  replace H := iT_ H
  by_cases c5 : t627 = true
  ·subst c5
   replace H := iT_ H
   by_cases c6 : (a0_3.size : Int) = 4
   ·rw [if_pos c6] at H
    have c6b0 : ((a0_3.size : Int) == 4) = true := beq_iff_eq.mpr c6
    have c6b1 : ((a0_3.size : Int) != 4) = false := bne_eq_false_iff_eq.mpr c6
    clear c6
    obtain ⟨c7, H⟩ := iN_ H
    have c7b0 := eq_true c7
    have c7b1 := decide_eq_true c7
    try have c7b2 : (9223372036854775807 < t624.size + a0_3.size) = False := eq_false (Nat.not_lt.2 c7)
    obtain ⟨c8, H⟩ := iN_ H
    have c8b0 := eq_true c8
    have c8b1 := decide_eq_true c8
    try have c8b2 : (9223372036854775807 < (t624 ++ a0_3).size + t626.size) = False := eq_false (Nat.not_lt.2 c8)
    try (have c8b9 : (9223372036854775807 < (t624 ++ a0_3).size + t626.size) = False := c8b2; simp only [ByteArray.size_append] at c8b9)
    simp only [Option.some.injEq, Prod.mk.injEq] at H
    obtain ⟨rfl, rfl⟩ := H
    go_enter Try.func23, Try.ntmps23
    go_wp2_with (first | ((with_reducible refine gate_dst (N := 1) rfl ?_); (try (refine gate_guard (by rfl) ?_; dsimp only)); refine box_event ?hg (N := 1) ?hd (cs := #[.int .i64 a0_0, .slice A0_1 l0_1.length c0_1, .slice A0_2 l0_2.length c0_2, .string a0_3, .int .i64 a0_4, .slice A0_5 l0_5.length c0_5, .slice A0_6 l0_6.length c0_6]) (t := 39) ?hr ?_; (case hd => rfl); (case hg => rfl); (case hr => first | (go_simp; done) | (go_simp; rfl)); intro gb623 hg w9 hbox hb; have n_ := b_ (below_step (hB_) hb) <| b_ (hbox) <| b_ (by rw [hg]; exact (below_size (hB_)) : w.heap.size ≤ gb623) <| c_ (by rw [hg]; exact (below_size (hB_)) : w.heap.size ≤ gb623); clear HB; obtain ⟨HB, BK623, GW623, GE623⟩ := n_; clear hb hbox hg; have hcz10_0 : w9.cell? ⟨gb623, 0, none⟩ = some (.int .i64 a0_0) := (blk_cell BK623.out 0).trans rfl; have hcz10_1 : w9.cell? ⟨gb623, 1, none⟩ = some (.slice A0_1 l0_1.length c0_1) := (blk_cell BK623.out 1).trans rfl; have hcz10_2 : w9.cell? ⟨gb623, 2, none⟩ = some (.slice A0_2 l0_2.length c0_2) := (blk_cell BK623.out 2).trans rfl; have hcz10_3 : w9.cell? ⟨gb623, 3, none⟩ = some (.string a0_3) := (blk_cell BK623.out 3).trans rfl; have hcz10_4 : w9.cell? ⟨gb623, 4, none⟩ = some (.int .i64 a0_4) := (blk_cell BK623.out 4).trans rfl; have hcz10_5 : w9.cell? ⟨gb623, 5, none⟩ = some (.slice A0_5 l0_5.length c0_5) := (blk_cell BK623.out 5).trans rfl; have hcz10_6 : w9.cell? ⟨gb623, 6, none⟩ = some (.slice A0_6 l0_6.length c0_6) := (blk_cell BK623.out 6).trans rfl; have hfz10_0 := blk_frozen BK623.out 0; have hfz10_1 := blk_frozen BK623.out 1; have hfz10_2 := blk_frozen BK623.out 2; have hfz10_3 := blk_frozen BK623.out 3; have hfz10_4 := blk_frozen BK623.out 4; have hfz10_5 := blk_frozen BK623.out 5; have hfz10_6 := blk_frozen BK623.out 6) | ((with_reducible refine gate_callee (f := 47) rfl ?_); refine goesL_ (some 11) rfl rfl Try.func47 (by kernel_rfl) rfl #[.agg #[.int .i64 a0_0, .slice A0_1 l0_1.length c0_1, .slice A0_2 l0_2.length c0_2]] rfl aM_ ?_; (with_reducible refine (impl_SigText.calls k a0_0 _ _ l0_1 _ _ l0_2 t624 true _ ?side1 ?side2 ?side3 ?side4 A2.out).mono ?_); (case side1 => exact cR_ (Kd.C_below HR0_1.out HB.out)); (case side2 => exact HC0_1.out); (case side3 => exact cR_ (Kd.C_below HR0_2.out HB.out)); (case side4 => exact HC0_2.out); rintro e w11 ⟨rfl, hb⟩; refine ⟨_, rfl, ?_⟩; have n_ := b_ (blk_below (g := gb623) (o := .cells #[.int .i64 a0_0, .slice A0_1 l0_1.length c0_1, .slice A0_2 l0_2.length c0_2, .string a0_3, .int .i64 a0_4, .slice A0_5 l0_5.length c0_5, .slice A0_6 l0_6.length c0_6] 39 (0, 0)) (rK_ BK623.out) hb) <| c_ (below_step (hS_ GE623.out) hb); clear BK623 HB; obtain ⟨BK623, HB⟩ := n_; have hcz12_0 : w11.cell? ⟨gb623, 0, none⟩ = some (.int .i64 a0_0) := (blk_cell BK623.out 0).trans rfl; have hcz12_1 : w11.cell? ⟨gb623, 1, none⟩ = some (.slice A0_1 l0_1.length c0_1) := (blk_cell BK623.out 1).trans rfl; have hcz12_2 : w11.cell? ⟨gb623, 2, none⟩ = some (.slice A0_2 l0_2.length c0_2) := (blk_cell BK623.out 2).trans rfl; have hcz12_3 : w11.cell? ⟨gb623, 3, none⟩ = some (.string a0_3) := (blk_cell BK623.out 3).trans rfl; have hcz12_4 : w11.cell? ⟨gb623, 4, none⟩ = some (.int .i64 a0_4) := (blk_cell BK623.out 4).trans rfl; have hcz12_5 : w11.cell? ⟨gb623, 5, none⟩ = some (.slice A0_5 l0_5.length c0_5) := (blk_cell BK623.out 5).trans rfl; have hcz12_6 : w11.cell? ⟨gb623, 6, none⟩ = some (.slice A0_6 l0_6.length c0_6) := (blk_cell BK623.out 6).trans rfl; have hfz12_0 := blk_frozen BK623.out 0; have hfz12_1 := blk_frozen BK623.out 1; have hfz12_2 := blk_frozen BK623.out 2; have hfz12_3 := blk_frozen BK623.out 3; have hfz12_4 := blk_frozen BK623.out 4; have hfz12_5 := blk_frozen BK623.out 5; have hfz12_6 := blk_frozen BK623.out 6) | ((with_reducible refine gate_callee (f := 47) rfl ?_); refine goesL_ (some 17) rfl rfl Try.func47 (by kernel_rfl) rfl #[.agg #[.int .i64 a0_4, .slice A0_5 l0_5.length c0_5, .slice A0_6 l0_6.length c0_6]] rfl aM_ ?_; (with_reducible refine (impl_SigText.calls k a0_4 _ _ l0_5 _ _ l0_6 t626 true _ ?side1 ?side2 ?side3 ?side4 A3.out).mono ?_); (case side1 => exact cR_ (Kd.C_below HR0_5.out HB.out)); (case side2 => exact HC0_5.out); (case side3 => exact cR_ (Kd.C_below HR0_6.out HB.out)); (case side4 => exact HC0_6.out); rintro e w13 ⟨rfl, hb⟩; refine ⟨_, rfl, ?_⟩; have n_ := b_ (blk_below (g := gb623) (o := .cells #[.int .i64 a0_0, .slice A0_1 l0_1.length c0_1, .slice A0_2 l0_2.length c0_2, .string a0_3, .int .i64 a0_4, .slice A0_5 l0_5.length c0_5, .slice A0_6 l0_6.length c0_6] 39 (0, 0)) (rK_ BK623.out) hb) <| c_ (below_step (hS_ GE623.out) hb); clear BK623 HB; obtain ⟨BK623, HB⟩ := n_; have hcz14_0 : w13.cell? ⟨gb623, 0, none⟩ = some (.int .i64 a0_0) := (blk_cell BK623.out 0).trans rfl; have hcz14_1 : w13.cell? ⟨gb623, 1, none⟩ = some (.slice A0_1 l0_1.length c0_1) := (blk_cell BK623.out 1).trans rfl; have hcz14_2 : w13.cell? ⟨gb623, 2, none⟩ = some (.slice A0_2 l0_2.length c0_2) := (blk_cell BK623.out 2).trans rfl; have hcz14_3 : w13.cell? ⟨gb623, 3, none⟩ = some (.string a0_3) := (blk_cell BK623.out 3).trans rfl; have hcz14_4 : w13.cell? ⟨gb623, 4, none⟩ = some (.int .i64 a0_4) := (blk_cell BK623.out 4).trans rfl; have hcz14_5 : w13.cell? ⟨gb623, 5, none⟩ = some (.slice A0_5 l0_5.length c0_5) := (blk_cell BK623.out 5).trans rfl; have hcz14_6 : w13.cell? ⟨gb623, 6, none⟩ = some (.slice A0_6 l0_6.length c0_6) := (blk_cell BK623.out 6).trans rfl; have hfz14_0 := blk_frozen BK623.out 0; have hfz14_1 := blk_frozen BK623.out 1; have hfz14_2 := blk_frozen BK623.out 2; have hfz14_3 := blk_frozen BK623.out 3; have hfz14_4 := blk_frozen BK623.out 4; have hfz14_5 := blk_frozen BK623.out 5; have hfz14_6 := blk_frozen BK623.out 6))
    go_ret2
    exact ⟨by first | rfl | (simp [errW_none, errW_some] <;> rfl) | (simp [*, errW_none, errW_some] <;> rfl), hS_ GE623.out⟩
   rw [if_neg c6] at H
   have c6b0 : ((a0_3.size : Int) == 4) = false := beq_eq_false_iff_ne.mpr c6
   have c6b1 : ((a0_3.size : Int) != 4) = true := bne_iff_ne.mpr c6
   simp only [Option.some.injEq, Prod.mk.injEq] at H
   obtain ⟨rfl, rfl⟩ := H
   go_enter Try.func23, Try.ntmps23
   go_wp2_with (first | ((with_reducible refine gate_dst (N := 1) rfl ?_); (try (refine gate_guard (by rfl) ?_; dsimp only)); refine box_event ?hg (N := 1) ?hd (cs := #[.int .i64 a0_0, .slice A0_1 l0_1.length c0_1, .slice A0_2 l0_2.length c0_2, .string a0_3, .int .i64 a0_4, .slice A0_5 l0_5.length c0_5, .slice A0_6 l0_6.length c0_6]) (t := 39) ?hr ?_; (case hd => rfl); (case hg => rfl); (case hr => first | (go_simp; done) | (go_simp; rfl)); intro gb623 hg w15 hbox hb; have n_ := b_ (below_step (hB_) hb) <| b_ (hbox) <| b_ (by rw [hg]; exact (below_size (hB_)) : w.heap.size ≤ gb623) <| c_ (by rw [hg]; exact (below_size (hB_)) : w.heap.size ≤ gb623); clear HB; obtain ⟨HB, BK623, GW623, GE623⟩ := n_; clear hb hbox hg; have hcz16_0 : w15.cell? ⟨gb623, 0, none⟩ = some (.int .i64 a0_0) := (blk_cell BK623.out 0).trans rfl; have hcz16_1 : w15.cell? ⟨gb623, 1, none⟩ = some (.slice A0_1 l0_1.length c0_1) := (blk_cell BK623.out 1).trans rfl; have hcz16_2 : w15.cell? ⟨gb623, 2, none⟩ = some (.slice A0_2 l0_2.length c0_2) := (blk_cell BK623.out 2).trans rfl; have hcz16_3 : w15.cell? ⟨gb623, 3, none⟩ = some (.string a0_3) := (blk_cell BK623.out 3).trans rfl; have hcz16_4 : w15.cell? ⟨gb623, 4, none⟩ = some (.int .i64 a0_4) := (blk_cell BK623.out 4).trans rfl; have hcz16_5 : w15.cell? ⟨gb623, 5, none⟩ = some (.slice A0_5 l0_5.length c0_5) := (blk_cell BK623.out 5).trans rfl; have hcz16_6 : w15.cell? ⟨gb623, 6, none⟩ = some (.slice A0_6 l0_6.length c0_6) := (blk_cell BK623.out 6).trans rfl; have hfz16_0 := blk_frozen BK623.out 0; have hfz16_1 := blk_frozen BK623.out 1; have hfz16_2 := blk_frozen BK623.out 2; have hfz16_3 := blk_frozen BK623.out 3; have hfz16_4 := blk_frozen BK623.out 4; have hfz16_5 := blk_frozen BK623.out 5; have hfz16_6 := blk_frozen BK623.out 6) | ((with_reducible refine gate_callee (f := 47) rfl ?_); refine goesL_ (some 11) rfl rfl Try.func47 (by kernel_rfl) rfl #[.agg #[.int .i64 a0_0, .slice A0_1 l0_1.length c0_1, .slice A0_2 l0_2.length c0_2]] rfl aM_ ?_; (with_reducible refine (impl_SigText.calls k a0_0 _ _ l0_1 _ _ l0_2 t624 true _ ?side1 ?side2 ?side3 ?side4 A2.out).mono ?_); (case side1 => exact cR_ (Kd.C_below HR0_1.out HB.out)); (case side2 => exact HC0_1.out); (case side3 => exact cR_ (Kd.C_below HR0_2.out HB.out)); (case side4 => exact HC0_2.out); rintro e w17 ⟨rfl, hb⟩; refine ⟨_, rfl, ?_⟩; have n_ := b_ (blk_below (g := gb623) (o := .cells #[.int .i64 a0_0, .slice A0_1 l0_1.length c0_1, .slice A0_2 l0_2.length c0_2, .string a0_3, .int .i64 a0_4, .slice A0_5 l0_5.length c0_5, .slice A0_6 l0_6.length c0_6] 39 (0, 0)) (rK_ BK623.out) hb) <| c_ (below_step (hS_ GE623.out) hb); clear BK623 HB; obtain ⟨BK623, HB⟩ := n_; have hcz18_0 : w17.cell? ⟨gb623, 0, none⟩ = some (.int .i64 a0_0) := (blk_cell BK623.out 0).trans rfl; have hcz18_1 : w17.cell? ⟨gb623, 1, none⟩ = some (.slice A0_1 l0_1.length c0_1) := (blk_cell BK623.out 1).trans rfl; have hcz18_2 : w17.cell? ⟨gb623, 2, none⟩ = some (.slice A0_2 l0_2.length c0_2) := (blk_cell BK623.out 2).trans rfl; have hcz18_3 : w17.cell? ⟨gb623, 3, none⟩ = some (.string a0_3) := (blk_cell BK623.out 3).trans rfl; have hcz18_4 : w17.cell? ⟨gb623, 4, none⟩ = some (.int .i64 a0_4) := (blk_cell BK623.out 4).trans rfl; have hcz18_5 : w17.cell? ⟨gb623, 5, none⟩ = some (.slice A0_5 l0_5.length c0_5) := (blk_cell BK623.out 5).trans rfl; have hcz18_6 : w17.cell? ⟨gb623, 6, none⟩ = some (.slice A0_6 l0_6.length c0_6) := (blk_cell BK623.out 6).trans rfl; have hfz18_0 := blk_frozen BK623.out 0; have hfz18_1 := blk_frozen BK623.out 1; have hfz18_2 := blk_frozen BK623.out 2; have hfz18_3 := blk_frozen BK623.out 3; have hfz18_4 := blk_frozen BK623.out 4; have hfz18_5 := blk_frozen BK623.out 5; have hfz18_6 := blk_frozen BK623.out 6) | ((with_reducible refine gate_callee (f := 47) rfl ?_); refine goesL_ (some 17) rfl rfl Try.func47 (by kernel_rfl) rfl #[.agg #[.int .i64 a0_4, .slice A0_5 l0_5.length c0_5, .slice A0_6 l0_6.length c0_6]] rfl aM_ ?_; (with_reducible refine (impl_SigText.calls k a0_4 _ _ l0_5 _ _ l0_6 t626 true _ ?side1 ?side2 ?side3 ?side4 A3.out).mono ?_); (case side1 => exact cR_ (Kd.C_below HR0_5.out HB.out)); (case side2 => exact HC0_5.out); (case side3 => exact cR_ (Kd.C_below HR0_6.out HB.out)); (case side4 => exact HC0_6.out); rintro e w19 ⟨rfl, hb⟩; refine ⟨_, rfl, ?_⟩; have n_ := b_ (blk_below (g := gb623) (o := .cells #[.int .i64 a0_0, .slice A0_1 l0_1.length c0_1, .slice A0_2 l0_2.length c0_2, .string a0_3, .int .i64 a0_4, .slice A0_5 l0_5.length c0_5, .slice A0_6 l0_6.length c0_6] 39 (0, 0)) (rK_ BK623.out) hb) <| c_ (below_step (hS_ GE623.out) hb); clear BK623 HB; obtain ⟨BK623, HB⟩ := n_; have hcz20_0 : w19.cell? ⟨gb623, 0, none⟩ = some (.int .i64 a0_0) := (blk_cell BK623.out 0).trans rfl; have hcz20_1 : w19.cell? ⟨gb623, 1, none⟩ = some (.slice A0_1 l0_1.length c0_1) := (blk_cell BK623.out 1).trans rfl; have hcz20_2 : w19.cell? ⟨gb623, 2, none⟩ = some (.slice A0_2 l0_2.length c0_2) := (blk_cell BK623.out 2).trans rfl; have hcz20_3 : w19.cell? ⟨gb623, 3, none⟩ = some (.string a0_3) := (blk_cell BK623.out 3).trans rfl; have hcz20_4 : w19.cell? ⟨gb623, 4, none⟩ = some (.int .i64 a0_4) := (blk_cell BK623.out 4).trans rfl; have hcz20_5 : w19.cell? ⟨gb623, 5, none⟩ = some (.slice A0_5 l0_5.length c0_5) := (blk_cell BK623.out 5).trans rfl; have hcz20_6 : w19.cell? ⟨gb623, 6, none⟩ = some (.slice A0_6 l0_6.length c0_6) := (blk_cell BK623.out 6).trans rfl; have hfz20_0 := blk_frozen BK623.out 0; have hfz20_1 := blk_frozen BK623.out 1; have hfz20_2 := blk_frozen BK623.out 2; have hfz20_3 := blk_frozen BK623.out 3; have hfz20_4 := blk_frozen BK623.out 4; have hfz20_5 := blk_frozen BK623.out 5; have hfz20_6 := blk_frozen BK623.out 6))
   go_ret2
   exact ⟨by first | rfl | (simp [errW_none, errW_some] <;> rfl) | (simp [*, errW_none, errW_some] <;> rfl), hS_ GE623.out⟩
  ·replace c5 := Bool.eq_false_iff.mpr c5
   subst c5
   replace H := iF_ H
   simp only [Option.some.injEq, Prod.mk.injEq] at H
   obtain ⟨rfl, rfl⟩ := H
   go_enter Try.func23, Try.ntmps23
   go_wp2_with (first | ((with_reducible refine gate_dst (N := 1) rfl ?_); (try (refine gate_guard (by rfl) ?_; dsimp only)); refine box_event ?hg (N := 1) ?hd (cs := #[.int .i64 a0_0, .slice A0_1 l0_1.length c0_1, .slice A0_2 l0_2.length c0_2, .string a0_3, .int .i64 a0_4, .slice A0_5 l0_5.length c0_5, .slice A0_6 l0_6.length c0_6]) (t := 39) ?hr ?_; (case hd => rfl); (case hg => rfl); (case hr => first | (go_simp; done) | (go_simp; rfl)); intro gb623 hg w21 hbox hb; have n_ := b_ (below_step (hB_) hb) <| b_ (hbox) <| b_ (by rw [hg]; exact (below_size (hB_)) : w.heap.size ≤ gb623) <| c_ (by rw [hg]; exact (below_size (hB_)) : w.heap.size ≤ gb623); clear HB; obtain ⟨HB, BK623, GW623, GE623⟩ := n_; clear hb hbox hg; have hcz22_0 : w21.cell? ⟨gb623, 0, none⟩ = some (.int .i64 a0_0) := (blk_cell BK623.out 0).trans rfl; have hcz22_1 : w21.cell? ⟨gb623, 1, none⟩ = some (.slice A0_1 l0_1.length c0_1) := (blk_cell BK623.out 1).trans rfl; have hcz22_2 : w21.cell? ⟨gb623, 2, none⟩ = some (.slice A0_2 l0_2.length c0_2) := (blk_cell BK623.out 2).trans rfl; have hcz22_3 : w21.cell? ⟨gb623, 3, none⟩ = some (.string a0_3) := (blk_cell BK623.out 3).trans rfl; have hcz22_4 : w21.cell? ⟨gb623, 4, none⟩ = some (.int .i64 a0_4) := (blk_cell BK623.out 4).trans rfl; have hcz22_5 : w21.cell? ⟨gb623, 5, none⟩ = some (.slice A0_5 l0_5.length c0_5) := (blk_cell BK623.out 5).trans rfl; have hcz22_6 : w21.cell? ⟨gb623, 6, none⟩ = some (.slice A0_6 l0_6.length c0_6) := (blk_cell BK623.out 6).trans rfl; have hfz22_0 := blk_frozen BK623.out 0; have hfz22_1 := blk_frozen BK623.out 1; have hfz22_2 := blk_frozen BK623.out 2; have hfz22_3 := blk_frozen BK623.out 3; have hfz22_4 := blk_frozen BK623.out 4; have hfz22_5 := blk_frozen BK623.out 5; have hfz22_6 := blk_frozen BK623.out 6) | ((with_reducible refine gate_callee (f := 47) rfl ?_); refine goesL_ (some 11) rfl rfl Try.func47 (by kernel_rfl) rfl #[.agg #[.int .i64 a0_0, .slice A0_1 l0_1.length c0_1, .slice A0_2 l0_2.length c0_2]] rfl aM_ ?_; (with_reducible refine (impl_SigText.calls k a0_0 _ _ l0_1 _ _ l0_2 t624 true _ ?side1 ?side2 ?side3 ?side4 A2.out).mono ?_); (case side1 => exact cR_ (Kd.C_below HR0_1.out HB.out)); (case side2 => exact HC0_1.out); (case side3 => exact cR_ (Kd.C_below HR0_2.out HB.out)); (case side4 => exact HC0_2.out); rintro e w23 ⟨rfl, hb⟩; refine ⟨_, rfl, ?_⟩; have n_ := b_ (blk_below (g := gb623) (o := .cells #[.int .i64 a0_0, .slice A0_1 l0_1.length c0_1, .slice A0_2 l0_2.length c0_2, .string a0_3, .int .i64 a0_4, .slice A0_5 l0_5.length c0_5, .slice A0_6 l0_6.length c0_6] 39 (0, 0)) (rK_ BK623.out) hb) <| c_ (below_step (hS_ GE623.out) hb); clear BK623 HB; obtain ⟨BK623, HB⟩ := n_; have hcz24_0 : w23.cell? ⟨gb623, 0, none⟩ = some (.int .i64 a0_0) := (blk_cell BK623.out 0).trans rfl; have hcz24_1 : w23.cell? ⟨gb623, 1, none⟩ = some (.slice A0_1 l0_1.length c0_1) := (blk_cell BK623.out 1).trans rfl; have hcz24_2 : w23.cell? ⟨gb623, 2, none⟩ = some (.slice A0_2 l0_2.length c0_2) := (blk_cell BK623.out 2).trans rfl; have hcz24_3 : w23.cell? ⟨gb623, 3, none⟩ = some (.string a0_3) := (blk_cell BK623.out 3).trans rfl; have hcz24_4 : w23.cell? ⟨gb623, 4, none⟩ = some (.int .i64 a0_4) := (blk_cell BK623.out 4).trans rfl; have hcz24_5 : w23.cell? ⟨gb623, 5, none⟩ = some (.slice A0_5 l0_5.length c0_5) := (blk_cell BK623.out 5).trans rfl; have hcz24_6 : w23.cell? ⟨gb623, 6, none⟩ = some (.slice A0_6 l0_6.length c0_6) := (blk_cell BK623.out 6).trans rfl; have hfz24_0 := blk_frozen BK623.out 0; have hfz24_1 := blk_frozen BK623.out 1; have hfz24_2 := blk_frozen BK623.out 2; have hfz24_3 := blk_frozen BK623.out 3; have hfz24_4 := blk_frozen BK623.out 4; have hfz24_5 := blk_frozen BK623.out 5; have hfz24_6 := blk_frozen BK623.out 6) | ((with_reducible refine gate_callee (f := 47) rfl ?_); refine goesL_ (some 17) rfl rfl Try.func47 (by kernel_rfl) rfl #[.agg #[.int .i64 a0_4, .slice A0_5 l0_5.length c0_5, .slice A0_6 l0_6.length c0_6]] rfl aM_ ?_; (with_reducible refine (impl_SigText.calls k a0_4 _ _ l0_5 _ _ l0_6 t626 false _ ?side1 ?side2 ?side3 ?side4 A3.out).mono ?_); (case side1 => exact cR_ (Kd.C_below HR0_5.out HB.out)); (case side2 => exact HC0_5.out); (case side3 => exact cR_ (Kd.C_below HR0_6.out HB.out)); (case side4 => exact HC0_6.out); rintro e w25 ⟨rfl, hb⟩; refine ⟨_, rfl, ?_⟩; have n_ := b_ (blk_below (g := gb623) (o := .cells #[.int .i64 a0_0, .slice A0_1 l0_1.length c0_1, .slice A0_2 l0_2.length c0_2, .string a0_3, .int .i64 a0_4, .slice A0_5 l0_5.length c0_5, .slice A0_6 l0_6.length c0_6] 39 (0, 0)) (rK_ BK623.out) hb) <| c_ (below_step (hS_ GE623.out) hb); clear BK623 HB; obtain ⟨BK623, HB⟩ := n_; (try clear hb)))
   go_ret2
   exact ⟨by first | rfl | (simp [errW_none, errW_some] <;> rfl) | (simp [*, errW_none, errW_some] <;> rfl), hS_ GE623.out⟩
 ·replace c4 := Bool.eq_false_iff.mpr c4
  subst c4
  replace H := iF_ H
  simp only [Option.some.injEq, Prod.mk.injEq] at H
  obtain ⟨rfl, rfl⟩ := H
  go_enter Try.func23, Try.ntmps23
  go_wp2_with (first | ((with_reducible refine gate_dst (N := 1) rfl ?_); (try (refine gate_guard (by rfl) ?_; dsimp only)); refine box_event ?hg (N := 1) ?hd (cs := #[.int .i64 a0_0, .slice A0_1 l0_1.length c0_1, .slice A0_2 l0_2.length c0_2, .string a0_3, .int .i64 a0_4, .slice A0_5 l0_5.length c0_5, .slice A0_6 l0_6.length c0_6]) (t := 39) ?hr ?_; (case hd => rfl); (case hg => rfl); (case hr => first | (go_simp; done) | (go_simp; rfl)); intro gb623 hg w26 hbox hb; have n_ := b_ (below_step (hB_) hb) <| b_ (hbox) <| b_ (by rw [hg]; exact (below_size (hB_)) : w.heap.size ≤ gb623) <| c_ (by rw [hg]; exact (below_size (hB_)) : w.heap.size ≤ gb623); clear HB; obtain ⟨HB, BK623, GW623, GE623⟩ := n_; clear hb hbox hg; have hcz27_0 : w26.cell? ⟨gb623, 0, none⟩ = some (.int .i64 a0_0) := (blk_cell BK623.out 0).trans rfl; have hcz27_1 : w26.cell? ⟨gb623, 1, none⟩ = some (.slice A0_1 l0_1.length c0_1) := (blk_cell BK623.out 1).trans rfl; have hcz27_2 : w26.cell? ⟨gb623, 2, none⟩ = some (.slice A0_2 l0_2.length c0_2) := (blk_cell BK623.out 2).trans rfl; have hcz27_3 : w26.cell? ⟨gb623, 3, none⟩ = some (.string a0_3) := (blk_cell BK623.out 3).trans rfl; have hcz27_4 : w26.cell? ⟨gb623, 4, none⟩ = some (.int .i64 a0_4) := (blk_cell BK623.out 4).trans rfl; have hcz27_5 : w26.cell? ⟨gb623, 5, none⟩ = some (.slice A0_5 l0_5.length c0_5) := (blk_cell BK623.out 5).trans rfl; have hcz27_6 : w26.cell? ⟨gb623, 6, none⟩ = some (.slice A0_6 l0_6.length c0_6) := (blk_cell BK623.out 6).trans rfl; have hfz27_0 := blk_frozen BK623.out 0; have hfz27_1 := blk_frozen BK623.out 1; have hfz27_2 := blk_frozen BK623.out 2; have hfz27_3 := blk_frozen BK623.out 3; have hfz27_4 := blk_frozen BK623.out 4; have hfz27_5 := blk_frozen BK623.out 5; have hfz27_6 := blk_frozen BK623.out 6) | ((with_reducible refine gate_callee (f := 47) rfl ?_); refine goesL_ (some 11) rfl rfl Try.func47 (by kernel_rfl) rfl #[.agg #[.int .i64 a0_0, .slice A0_1 l0_1.length c0_1, .slice A0_2 l0_2.length c0_2]] rfl aM_ ?_; (with_reducible refine (impl_SigText.calls k a0_0 _ _ l0_1 _ _ l0_2 t624 false _ ?side1 ?side2 ?side3 ?side4 A2.out).mono ?_); (case side1 => exact cR_ (Kd.C_below HR0_1.out HB.out)); (case side2 => exact HC0_1.out); (case side3 => exact cR_ (Kd.C_below HR0_2.out HB.out)); (case side4 => exact HC0_2.out); rintro e w28 ⟨rfl, hb⟩; refine ⟨_, rfl, ?_⟩; have n_ := b_ (blk_below (g := gb623) (o := .cells #[.int .i64 a0_0, .slice A0_1 l0_1.length c0_1, .slice A0_2 l0_2.length c0_2, .string a0_3, .int .i64 a0_4, .slice A0_5 l0_5.length c0_5, .slice A0_6 l0_6.length c0_6] 39 (0, 0)) (rK_ BK623.out) hb) <| c_ (below_step (hS_ GE623.out) hb); clear BK623 HB; obtain ⟨BK623, HB⟩ := n_; have hcz29_0 : w28.cell? ⟨gb623, 0, none⟩ = some (.int .i64 a0_0) := (blk_cell BK623.out 0).trans rfl; have hcz29_1 : w28.cell? ⟨gb623, 1, none⟩ = some (.slice A0_1 l0_1.length c0_1) := (blk_cell BK623.out 1).trans rfl; have hcz29_2 : w28.cell? ⟨gb623, 2, none⟩ = some (.slice A0_2 l0_2.length c0_2) := (blk_cell BK623.out 2).trans rfl; have hcz29_3 : w28.cell? ⟨gb623, 3, none⟩ = some (.string a0_3) := (blk_cell BK623.out 3).trans rfl; have hcz29_4 : w28.cell? ⟨gb623, 4, none⟩ = some (.int .i64 a0_4) := (blk_cell BK623.out 4).trans rfl; have hcz29_5 : w28.cell? ⟨gb623, 5, none⟩ = some (.slice A0_5 l0_5.length c0_5) := (blk_cell BK623.out 5).trans rfl; have hcz29_6 : w28.cell? ⟨gb623, 6, none⟩ = some (.slice A0_6 l0_6.length c0_6) := (blk_cell BK623.out 6).trans rfl; have hfz29_0 := blk_frozen BK623.out 0; have hfz29_1 := blk_frozen BK623.out 1; have hfz29_2 := blk_frozen BK623.out 2; have hfz29_3 := blk_frozen BK623.out 3; have hfz29_4 := blk_frozen BK623.out 4; have hfz29_5 := blk_frozen BK623.out 5; have hfz29_6 := blk_frozen BK623.out 6) | ((with_reducible refine gate_callee (f := 47) rfl ?_); refine goesL_ (some 17) rfl rfl Try.func47 (by kernel_rfl) rfl #[.agg #[.int .i64 a0_4, .slice A0_5 l0_5.length c0_5, .slice A0_6 l0_6.length c0_6]] rfl aM_ ?_; (with_reducible refine (impl_SigText.calls k a0_4 _ _ l0_5 _ _ l0_6 t626 t627 _ ?side1 ?side2 ?side3 ?side4 A3.out).mono ?_); (case side1 => exact cR_ (Kd.C_below HR0_5.out HB.out)); (case side2 => exact HC0_5.out); (case side3 => exact cR_ (Kd.C_below HR0_6.out HB.out)); (case side4 => exact HC0_6.out); rintro e w30 ⟨rfl, hb⟩; refine ⟨_, rfl, ?_⟩; have n_ := b_ (blk_below (g := gb623) (o := .cells #[.int .i64 a0_0, .slice A0_1 l0_1.length c0_1, .slice A0_2 l0_2.length c0_2, .string a0_3, .int .i64 a0_4, .slice A0_5 l0_5.length c0_5, .slice A0_6 l0_6.length c0_6] 39 (0, 0)) (rK_ BK623.out) hb) <| c_ (below_step (hS_ GE623.out) hb); clear BK623 HB; obtain ⟨BK623, HB⟩ := n_; (try clear hb)))
  go_ret2
  exact ⟨by first | rfl | (simp [errW_none, errW_some] <;> rfl) | (simp [*, errW_none, errW_some] <;> rfl), hS_ GE623.out⟩

/-! ### impl_HyperIndex: function 25 -/
def impl_HyperIndex.f (k : Nat) (a0_0 : Int) (l0_1 : List ByteArray) (l0_2 : List ByteArray) (a0_3 : ByteArray) (a0_4 : Int) (l0_5 : List ByteArray) (l0_6 : List ByteArray) : Option (Int) := (impl_SigOk.f k a0_0 l0_1 l0_2).bind fun t654 => (if t654 = true then ((impl_SigOk.f k a0_4 l0_5 l0_6).bind fun t655 => (if t655 = true then (some (wrap64 ((wrap64 (4 * a0_0)) + a0_4))) else (some (-1)))) else (some (-1)))
theorem impl_HyperIndex.mono : ∀ a0 a1 a2 a3 a4 a5 a6 k, LeO (impl_HyperIndex.f k a0 a1 a2 a3 a4 a5 a6) (impl_HyperIndex.f (k + 1) a0 a1 a2 a3 a4 a5 a6) := by
 intro a0 a1 a2 a3 a4 a5 a6 k
 unfold impl_HyperIndex.f
 exact o1_ impl_SigOk.mono
theorem impl_HyperIndex.calls (k : Nat) (a0_0 : Int) (A0_1 : Option Addr) (c0_1 : Nat) (l0_1 : List ByteArray) (A0_2 : Option Addr) (c0_2 : Nat) (l0_2 : List ByteArray) (a0_3 : ByteArray) (a0_4 : Int) (A0_5 : Option Addr) (c0_5 : Nat) (l0_5 : List ByteArray) (A0_6 : Option Addr) (c0_6 : Nat) (l0_6 : List ByteArray) (r : Int) (w : World) (hr0_1 : Kd.C Kd.string w A0_1 l0_1.length l0_1) (hc0_1 : l0_1.length ≤ c0_1) (hr0_2 : Kd.C Kd.string w A0_2 l0_2.length l0_2) (hc0_2 : l0_2.length ≤ c0_2) (hr0_5 : Kd.C Kd.string w A0_5 l0_5.length l0_5) (hc0_5 : l0_5.length ≤ c0_5) (hr0_6 : Kd.C Kd.string w A0_6 l0_6.length l0_6) (hc0_6 : l0_6.length ≤ c0_6) (h : impl_HyperIndex.f k a0_0 l0_1 l0_2 a0_3 a0_4 l0_5 l0_6 = some r) :
  Calls Try.prog 25 #[.agg #[.int .i64 a0_0, .slice A0_1 l0_1.length c0_1, .slice A0_2 l0_2.length c0_2, .string a0_3, .int .i64 a0_4, .slice A0_5 l0_5.length c0_5, .slice A0_6 l0_6.length c0_6]] w fun e w' => e = .returned (.int .i64 r) ∧ Below w.heap.size w w' := by
 have hu39 := Try.underlying39
 have hu37 := Try.underlying37
 have HR0_1 := Aside0.mk hr0_1
 have HC0_1 := Aside0.mk hc0_1
 clear hr0_1 hc0_1
 have HR0_2 := Aside0.mk hr0_2
 have HC0_2 := Aside0.mk hc0_2
 clear hr0_2 hc0_2
 have HR0_5 := Aside0.mk hr0_5
 have HC0_5 := Aside0.mk hc0_5
 clear hr0_5 hc0_5
 have HR0_6 := Aside0.mk hr0_6
 have HC0_6 := Aside0.mk hc0_6
 clear hr0_6 hc0_6
 have HB := Aside0.mk (Below.refl w.heap.size w)
 delta impl_HyperIndex.f at h
 have H := h
 clear h
 obtain ⟨t654, A2, H⟩ := bN_ H
 by_cases c3 : t654 = true
 ·subst c3
  replace H := iT_ H
  obtain ⟨t655, A4, H⟩ := bN_ H
  by_cases c5 : t655 = true
  ·subst c5
   replace H := iT_ H
   obtain rfl := Option.some.inj H
   go_enter Try.func25, Try.ntmps25
   go_wp2_with (first | ((with_reducible refine gate_dst (N := 1) rfl ?_); refine box_event ?hg (N := 1) ?hd (cs := #[.int .i64 a0_0, .slice A0_1 l0_1.length c0_1, .slice A0_2 l0_2.length c0_2, .string a0_3, .int .i64 a0_4, .slice A0_5 l0_5.length c0_5, .slice A0_6 l0_6.length c0_6]) (t := 39) ?hr ?_; (case hd => rfl); (case hg => rfl); (case hr => first | (go_simp; done) | (go_simp; rfl)); intro gb653 hg w6 hbox hb; have n_ := b_ (below_step (hB_) hb) <| b_ (hbox) <| b_ (by rw [hg]; exact (below_size (hB_)) : w.heap.size ≤ gb653) <| c_ (by rw [hg]; exact (below_size (hB_)) : w.heap.size ≤ gb653); clear HB; obtain ⟨HB, BK653, GW653, GE653⟩ := n_; clear hb hbox hg; have hcz7_0 : w6.cell? ⟨gb653, 0, none⟩ = some (.int .i64 a0_0) := (blk_cell BK653.out 0).trans rfl; have hcz7_1 : w6.cell? ⟨gb653, 1, none⟩ = some (.slice A0_1 l0_1.length c0_1) := (blk_cell BK653.out 1).trans rfl; have hcz7_2 : w6.cell? ⟨gb653, 2, none⟩ = some (.slice A0_2 l0_2.length c0_2) := (blk_cell BK653.out 2).trans rfl; have hcz7_3 : w6.cell? ⟨gb653, 3, none⟩ = some (.string a0_3) := (blk_cell BK653.out 3).trans rfl; have hcz7_4 : w6.cell? ⟨gb653, 4, none⟩ = some (.int .i64 a0_4) := (blk_cell BK653.out 4).trans rfl; have hcz7_5 : w6.cell? ⟨gb653, 5, none⟩ = some (.slice A0_5 l0_5.length c0_5) := (blk_cell BK653.out 5).trans rfl; have hcz7_6 : w6.cell? ⟨gb653, 6, none⟩ = some (.slice A0_6 l0_6.length c0_6) := (blk_cell BK653.out 6).trans rfl; have hfz7_0 := blk_frozen BK653.out 0; have hfz7_1 := blk_frozen BK653.out 1; have hfz7_2 := blk_frozen BK653.out 2; have hfz7_3 := blk_frozen BK653.out 3; have hfz7_4 := blk_frozen BK653.out 4; have hfz7_5 := blk_frozen BK653.out 5; have hfz7_6 := blk_frozen BK653.out 6) | ((with_reducible refine gate_callee (f := 48) rfl ?_); refine goesL_ (some 5) rfl rfl Try.func48 (by kernel_rfl) rfl #[.agg #[.int .i64 a0_0, .slice A0_1 l0_1.length c0_1, .slice A0_2 l0_2.length c0_2]] rfl aM_ ?_; (with_reducible refine (impl_SigOk.calls k a0_0 _ _ l0_1 _ _ l0_2 true _ ?side1 ?side2 ?side3 ?side4 A2.out).mono ?_); (case side1 => exact cR_ (Kd.C_below HR0_1.out HB.out)); (case side2 => exact HC0_1.out); (case side3 => exact cR_ (Kd.C_below HR0_2.out HB.out)); (case side4 => exact HC0_2.out); rintro e w8 ⟨rfl, hb⟩; refine ⟨_, rfl, ?_⟩; have n_ := b_ (blk_below (g := gb653) (o := .cells #[.int .i64 a0_0, .slice A0_1 l0_1.length c0_1, .slice A0_2 l0_2.length c0_2, .string a0_3, .int .i64 a0_4, .slice A0_5 l0_5.length c0_5, .slice A0_6 l0_6.length c0_6] 39 (0, 0)) (rK_ BK653.out) hb) <| c_ (below_step (hS_ GE653.out) hb); clear BK653 HB; obtain ⟨BK653, HB⟩ := n_; have hcz9_0 : w8.cell? ⟨gb653, 0, none⟩ = some (.int .i64 a0_0) := (blk_cell BK653.out 0).trans rfl; have hcz9_1 : w8.cell? ⟨gb653, 1, none⟩ = some (.slice A0_1 l0_1.length c0_1) := (blk_cell BK653.out 1).trans rfl; have hcz9_2 : w8.cell? ⟨gb653, 2, none⟩ = some (.slice A0_2 l0_2.length c0_2) := (blk_cell BK653.out 2).trans rfl; have hcz9_3 : w8.cell? ⟨gb653, 3, none⟩ = some (.string a0_3) := (blk_cell BK653.out 3).trans rfl; have hcz9_4 : w8.cell? ⟨gb653, 4, none⟩ = some (.int .i64 a0_4) := (blk_cell BK653.out 4).trans rfl; have hcz9_5 : w8.cell? ⟨gb653, 5, none⟩ = some (.slice A0_5 l0_5.length c0_5) := (blk_cell BK653.out 5).trans rfl; have hcz9_6 : w8.cell? ⟨gb653, 6, none⟩ = some (.slice A0_6 l0_6.length c0_6) := (blk_cell BK653.out 6).trans rfl; have hfz9_0 := blk_frozen BK653.out 0; have hfz9_1 := blk_frozen BK653.out 1; have hfz9_2 := blk_frozen BK653.out 2; have hfz9_3 := blk_frozen BK653.out 3; have hfz9_4 := blk_frozen BK653.out 4; have hfz9_5 := blk_frozen BK653.out 5; have hfz9_6 := blk_frozen BK653.out 6) | (go_at_call 48; (with_reducible refine (impl_SigOk.calls k a0_4 _ _ l0_5 _ _ l0_6 true _ ?side1 ?side2 ?side3 ?side4 A4.out).mono ?_); (case side1 => exact cR_ (Kd.C_below HR0_5.out HB.out)); (case side2 => exact HC0_5.out); (case side3 => exact cR_ (Kd.C_below HR0_6.out HB.out)); (case side4 => exact HC0_6.out); rintro e w10 ⟨rfl, hb⟩; have n_ := b_ (blk_below (g := gb653) (o := .cells #[.int .i64 a0_0, .slice A0_1 l0_1.length c0_1, .slice A0_2 l0_2.length c0_2, .string a0_3, .int .i64 a0_4, .slice A0_5 l0_5.length c0_5, .slice A0_6 l0_6.length c0_6] 39 (0, 0)) (rK_ BK653.out) hb) <| c_ (below_step (hS_ GE653.out) hb); clear BK653 HB; obtain ⟨BK653, HB⟩ := n_; have hcz11_0 : w10.cell? ⟨gb653, 0, none⟩ = some (.int .i64 a0_0) := (blk_cell BK653.out 0).trans rfl; have hcz11_1 : w10.cell? ⟨gb653, 1, none⟩ = some (.slice A0_1 l0_1.length c0_1) := (blk_cell BK653.out 1).trans rfl; have hcz11_2 : w10.cell? ⟨gb653, 2, none⟩ = some (.slice A0_2 l0_2.length c0_2) := (blk_cell BK653.out 2).trans rfl; have hcz11_3 : w10.cell? ⟨gb653, 3, none⟩ = some (.string a0_3) := (blk_cell BK653.out 3).trans rfl; have hcz11_4 : w10.cell? ⟨gb653, 4, none⟩ = some (.int .i64 a0_4) := (blk_cell BK653.out 4).trans rfl; have hcz11_5 : w10.cell? ⟨gb653, 5, none⟩ = some (.slice A0_5 l0_5.length c0_5) := (blk_cell BK653.out 5).trans rfl; have hcz11_6 : w10.cell? ⟨gb653, 6, none⟩ = some (.slice A0_6 l0_6.length c0_6) := (blk_cell BK653.out 6).trans rfl; have hfz11_0 := blk_frozen BK653.out 0; have hfz11_1 := blk_frozen BK653.out 1; have hfz11_2 := blk_frozen BK653.out 2; have hfz11_3 := blk_frozen BK653.out 3; have hfz11_4 := blk_frozen BK653.out 4; have hfz11_5 := blk_frozen BK653.out 5; have hfz11_6 := blk_frozen BK653.out 6))
   go_ret
   exact ⟨by first | rfl | (simp [errW_none, errW_some] <;> rfl) | (simp [*, errW_none, errW_some] <;> rfl), hS_ GE653.out⟩
  ·replace c5 := Bool.eq_false_iff.mpr c5
   subst c5
   replace H := iF_ H
   obtain rfl := Option.some.inj H
   go_enter Try.func25, Try.ntmps25
   go_wp2_with (first | ((with_reducible refine gate_dst (N := 1) rfl ?_); refine box_event ?hg (N := 1) ?hd (cs := #[.int .i64 a0_0, .slice A0_1 l0_1.length c0_1, .slice A0_2 l0_2.length c0_2, .string a0_3, .int .i64 a0_4, .slice A0_5 l0_5.length c0_5, .slice A0_6 l0_6.length c0_6]) (t := 39) ?hr ?_; (case hd => rfl); (case hg => rfl); (case hr => first | (go_simp; done) | (go_simp; rfl)); intro gb653 hg w12 hbox hb; have n_ := b_ (below_step (hB_) hb) <| b_ (hbox) <| b_ (by rw [hg]; exact (below_size (hB_)) : w.heap.size ≤ gb653) <| c_ (by rw [hg]; exact (below_size (hB_)) : w.heap.size ≤ gb653); clear HB; obtain ⟨HB, BK653, GW653, GE653⟩ := n_; clear hb hbox hg; have hcz13_0 : w12.cell? ⟨gb653, 0, none⟩ = some (.int .i64 a0_0) := (blk_cell BK653.out 0).trans rfl; have hcz13_1 : w12.cell? ⟨gb653, 1, none⟩ = some (.slice A0_1 l0_1.length c0_1) := (blk_cell BK653.out 1).trans rfl; have hcz13_2 : w12.cell? ⟨gb653, 2, none⟩ = some (.slice A0_2 l0_2.length c0_2) := (blk_cell BK653.out 2).trans rfl; have hcz13_3 : w12.cell? ⟨gb653, 3, none⟩ = some (.string a0_3) := (blk_cell BK653.out 3).trans rfl; have hcz13_4 : w12.cell? ⟨gb653, 4, none⟩ = some (.int .i64 a0_4) := (blk_cell BK653.out 4).trans rfl; have hcz13_5 : w12.cell? ⟨gb653, 5, none⟩ = some (.slice A0_5 l0_5.length c0_5) := (blk_cell BK653.out 5).trans rfl; have hcz13_6 : w12.cell? ⟨gb653, 6, none⟩ = some (.slice A0_6 l0_6.length c0_6) := (blk_cell BK653.out 6).trans rfl; have hfz13_0 := blk_frozen BK653.out 0; have hfz13_1 := blk_frozen BK653.out 1; have hfz13_2 := blk_frozen BK653.out 2; have hfz13_3 := blk_frozen BK653.out 3; have hfz13_4 := blk_frozen BK653.out 4; have hfz13_5 := blk_frozen BK653.out 5; have hfz13_6 := blk_frozen BK653.out 6) | ((with_reducible refine gate_callee (f := 48) rfl ?_); refine goesL_ (some 5) rfl rfl Try.func48 (by kernel_rfl) rfl #[.agg #[.int .i64 a0_0, .slice A0_1 l0_1.length c0_1, .slice A0_2 l0_2.length c0_2]] rfl aM_ ?_; (with_reducible refine (impl_SigOk.calls k a0_0 _ _ l0_1 _ _ l0_2 true _ ?side1 ?side2 ?side3 ?side4 A2.out).mono ?_); (case side1 => exact cR_ (Kd.C_below HR0_1.out HB.out)); (case side2 => exact HC0_1.out); (case side3 => exact cR_ (Kd.C_below HR0_2.out HB.out)); (case side4 => exact HC0_2.out); rintro e w14 ⟨rfl, hb⟩; refine ⟨_, rfl, ?_⟩; have n_ := b_ (blk_below (g := gb653) (o := .cells #[.int .i64 a0_0, .slice A0_1 l0_1.length c0_1, .slice A0_2 l0_2.length c0_2, .string a0_3, .int .i64 a0_4, .slice A0_5 l0_5.length c0_5, .slice A0_6 l0_6.length c0_6] 39 (0, 0)) (rK_ BK653.out) hb) <| c_ (below_step (hS_ GE653.out) hb); clear BK653 HB; obtain ⟨BK653, HB⟩ := n_; have hcz15_0 : w14.cell? ⟨gb653, 0, none⟩ = some (.int .i64 a0_0) := (blk_cell BK653.out 0).trans rfl; have hcz15_1 : w14.cell? ⟨gb653, 1, none⟩ = some (.slice A0_1 l0_1.length c0_1) := (blk_cell BK653.out 1).trans rfl; have hcz15_2 : w14.cell? ⟨gb653, 2, none⟩ = some (.slice A0_2 l0_2.length c0_2) := (blk_cell BK653.out 2).trans rfl; have hcz15_3 : w14.cell? ⟨gb653, 3, none⟩ = some (.string a0_3) := (blk_cell BK653.out 3).trans rfl; have hcz15_4 : w14.cell? ⟨gb653, 4, none⟩ = some (.int .i64 a0_4) := (blk_cell BK653.out 4).trans rfl; have hcz15_5 : w14.cell? ⟨gb653, 5, none⟩ = some (.slice A0_5 l0_5.length c0_5) := (blk_cell BK653.out 5).trans rfl; have hcz15_6 : w14.cell? ⟨gb653, 6, none⟩ = some (.slice A0_6 l0_6.length c0_6) := (blk_cell BK653.out 6).trans rfl; have hfz15_0 := blk_frozen BK653.out 0; have hfz15_1 := blk_frozen BK653.out 1; have hfz15_2 := blk_frozen BK653.out 2; have hfz15_3 := blk_frozen BK653.out 3; have hfz15_4 := blk_frozen BK653.out 4; have hfz15_5 := blk_frozen BK653.out 5; have hfz15_6 := blk_frozen BK653.out 6) | (go_at_call 48; (with_reducible refine (impl_SigOk.calls k a0_4 _ _ l0_5 _ _ l0_6 false _ ?side1 ?side2 ?side3 ?side4 A4.out).mono ?_); (case side1 => exact cR_ (Kd.C_below HR0_5.out HB.out)); (case side2 => exact HC0_5.out); (case side3 => exact cR_ (Kd.C_below HR0_6.out HB.out)); (case side4 => exact HC0_6.out); rintro e w16 ⟨rfl, hb⟩; have n_ := b_ (blk_below (g := gb653) (o := .cells #[.int .i64 a0_0, .slice A0_1 l0_1.length c0_1, .slice A0_2 l0_2.length c0_2, .string a0_3, .int .i64 a0_4, .slice A0_5 l0_5.length c0_5, .slice A0_6 l0_6.length c0_6] 39 (0, 0)) (rK_ BK653.out) hb) <| c_ (below_step (hS_ GE653.out) hb); clear BK653 HB; obtain ⟨BK653, HB⟩ := n_; (try clear hb)))
   go_ret
   exact ⟨by first | rfl | (simp [errW_none, errW_some] <;> rfl) | (simp [*, errW_none, errW_some] <;> rfl), hS_ GE653.out⟩
 ·replace c3 := Bool.eq_false_iff.mpr c3
  subst c3
  replace H := iF_ H
  obtain rfl := Option.some.inj H
  go_enter Try.func25, Try.ntmps25
  go_wp2_with (first | ((with_reducible refine gate_dst (N := 1) rfl ?_); refine box_event ?hg (N := 1) ?hd (cs := #[.int .i64 a0_0, .slice A0_1 l0_1.length c0_1, .slice A0_2 l0_2.length c0_2, .string a0_3, .int .i64 a0_4, .slice A0_5 l0_5.length c0_5, .slice A0_6 l0_6.length c0_6]) (t := 39) ?hr ?_; (case hd => rfl); (case hg => rfl); (case hr => first | (go_simp; done) | (go_simp; rfl)); intro gb653 hg w17 hbox hb; have n_ := b_ (below_step (hB_) hb) <| b_ (hbox) <| b_ (by rw [hg]; exact (below_size (hB_)) : w.heap.size ≤ gb653) <| c_ (by rw [hg]; exact (below_size (hB_)) : w.heap.size ≤ gb653); clear HB; obtain ⟨HB, BK653, GW653, GE653⟩ := n_; clear hb hbox hg; have hcz18_0 : w17.cell? ⟨gb653, 0, none⟩ = some (.int .i64 a0_0) := (blk_cell BK653.out 0).trans rfl; have hcz18_1 : w17.cell? ⟨gb653, 1, none⟩ = some (.slice A0_1 l0_1.length c0_1) := (blk_cell BK653.out 1).trans rfl; have hcz18_2 : w17.cell? ⟨gb653, 2, none⟩ = some (.slice A0_2 l0_2.length c0_2) := (blk_cell BK653.out 2).trans rfl; have hcz18_3 : w17.cell? ⟨gb653, 3, none⟩ = some (.string a0_3) := (blk_cell BK653.out 3).trans rfl; have hcz18_4 : w17.cell? ⟨gb653, 4, none⟩ = some (.int .i64 a0_4) := (blk_cell BK653.out 4).trans rfl; have hcz18_5 : w17.cell? ⟨gb653, 5, none⟩ = some (.slice A0_5 l0_5.length c0_5) := (blk_cell BK653.out 5).trans rfl; have hcz18_6 : w17.cell? ⟨gb653, 6, none⟩ = some (.slice A0_6 l0_6.length c0_6) := (blk_cell BK653.out 6).trans rfl; have hfz18_0 := blk_frozen BK653.out 0; have hfz18_1 := blk_frozen BK653.out 1; have hfz18_2 := blk_frozen BK653.out 2; have hfz18_3 := blk_frozen BK653.out 3; have hfz18_4 := blk_frozen BK653.out 4; have hfz18_5 := blk_frozen BK653.out 5; have hfz18_6 := blk_frozen BK653.out 6) | ((with_reducible refine gate_callee (f := 48) rfl ?_); refine goesL_ (some 5) rfl rfl Try.func48 (by kernel_rfl) rfl #[.agg #[.int .i64 a0_0, .slice A0_1 l0_1.length c0_1, .slice A0_2 l0_2.length c0_2]] rfl aM_ ?_; (with_reducible refine (impl_SigOk.calls k a0_0 _ _ l0_1 _ _ l0_2 false _ ?side1 ?side2 ?side3 ?side4 A2.out).mono ?_); (case side1 => exact cR_ (Kd.C_below HR0_1.out HB.out)); (case side2 => exact HC0_1.out); (case side3 => exact cR_ (Kd.C_below HR0_2.out HB.out)); (case side4 => exact HC0_2.out); rintro e w19 ⟨rfl, hb⟩; refine ⟨_, rfl, ?_⟩; have n_ := b_ (blk_below (g := gb653) (o := .cells #[.int .i64 a0_0, .slice A0_1 l0_1.length c0_1, .slice A0_2 l0_2.length c0_2, .string a0_3, .int .i64 a0_4, .slice A0_5 l0_5.length c0_5, .slice A0_6 l0_6.length c0_6] 39 (0, 0)) (rK_ BK653.out) hb) <| c_ (below_step (hS_ GE653.out) hb); clear BK653 HB; obtain ⟨BK653, HB⟩ := n_; (try clear hb)))
  go_ret
  exact ⟨by first | rfl | (simp [errW_none, errW_some] <;> rfl) | (simp [*, errW_none, errW_some] <;> rfl), hS_ GE653.out⟩

/-! ### spec_HyperIndex: function 26 -/
def spec_HyperIndex.f (k : Nat) (a0_0 : Int) (l0_1 : List ByteArray) (l0_2 : List ByteArray) (a0_3 : ByteArray) (a0_4 : Int) (l0_5 : List ByteArray) (l0_6 : List ByteArray) : Option (Int) := (spec_SigOk.f k a0_0 l0_1 l0_2).bind fun t657 => (if t657 = true then ((spec_SigOk.f k a0_4 l0_5 l0_6).bind fun t658 => (if t658 = true then (some (wrap64 ((wrap64 (4 * a0_0)) + a0_4))) else (some (-1)))) else (some (-1)))
theorem spec_HyperIndex.mono : ∀ a0 a1 a2 a3 a4 a5 a6 k, LeO (spec_HyperIndex.f k a0 a1 a2 a3 a4 a5 a6) (spec_HyperIndex.f (k + 1) a0 a1 a2 a3 a4 a5 a6) := by
 intro a0 a1 a2 a3 a4 a5 a6 k
 unfold spec_HyperIndex.f
 exact o1_ spec_SigOk.mono
theorem spec_HyperIndex.calls (k : Nat) (a0_0 : Int) (A0_1 : Option Addr) (c0_1 : Nat) (l0_1 : List ByteArray) (A0_2 : Option Addr) (c0_2 : Nat) (l0_2 : List ByteArray) (a0_3 : ByteArray) (a0_4 : Int) (A0_5 : Option Addr) (c0_5 : Nat) (l0_5 : List ByteArray) (A0_6 : Option Addr) (c0_6 : Nat) (l0_6 : List ByteArray) (r : Int) (w : World) (hr0_1 : Kd.C Kd.string w A0_1 l0_1.length l0_1) (hc0_1 : l0_1.length ≤ c0_1) (hr0_2 : Kd.C Kd.string w A0_2 l0_2.length l0_2) (hc0_2 : l0_2.length ≤ c0_2) (hr0_5 : Kd.C Kd.string w A0_5 l0_5.length l0_5) (hc0_5 : l0_5.length ≤ c0_5) (hr0_6 : Kd.C Kd.string w A0_6 l0_6.length l0_6) (hc0_6 : l0_6.length ≤ c0_6) (h : spec_HyperIndex.f k a0_0 l0_1 l0_2 a0_3 a0_4 l0_5 l0_6 = some r) :
  Calls Try.prog 26 #[.agg #[.int .i64 a0_0, .slice A0_1 l0_1.length c0_1, .slice A0_2 l0_2.length c0_2, .string a0_3, .int .i64 a0_4, .slice A0_5 l0_5.length c0_5, .slice A0_6 l0_6.length c0_6]] w fun e w' => e = .returned (.int .i64 r) ∧ Below w.heap.size w w' := by
 have hu39 := Try.underlying39
 have hu37 := Try.underlying37
 have HR0_1 := Aside0.mk hr0_1
 have HC0_1 := Aside0.mk hc0_1
 clear hr0_1 hc0_1
 have HR0_2 := Aside0.mk hr0_2
 have HC0_2 := Aside0.mk hc0_2
 clear hr0_2 hc0_2
 have HR0_5 := Aside0.mk hr0_5
 have HC0_5 := Aside0.mk hc0_5
 clear hr0_5 hc0_5
 have HR0_6 := Aside0.mk hr0_6
 have HC0_6 := Aside0.mk hc0_6
 clear hr0_6 hc0_6
 have HB := Aside0.mk (Below.refl w.heap.size w)
 delta spec_HyperIndex.f at h
 have H := h
 clear h
 obtain ⟨t657, A2, H⟩ := bN_ H
 by_cases c3 : t657 = true
 ·subst c3
  replace H := iT_ H
  obtain ⟨t658, A4, H⟩ := bN_ H
  by_cases c5 : t658 = true
  ·subst c5
   replace H := iT_ H
   obtain rfl := Option.some.inj H
   go_enter Try.func26, Try.ntmps26
   go_wp2_with (first | ((with_reducible refine gate_dst (N := 1) rfl ?_); refine box_event ?hg (N := 1) ?hd (cs := #[.int .i64 a0_0, .slice A0_1 l0_1.length c0_1, .slice A0_2 l0_2.length c0_2, .string a0_3, .int .i64 a0_4, .slice A0_5 l0_5.length c0_5, .slice A0_6 l0_6.length c0_6]) (t := 39) ?hr ?_; (case hd => rfl); (case hg => rfl); (case hr => first | (go_simp; done) | (go_simp; rfl)); intro gb656 hg w6 hbox hb; have n_ := b_ (below_step (hB_) hb) <| b_ (hbox) <| b_ (by rw [hg]; exact (below_size (hB_)) : w.heap.size ≤ gb656) <| c_ (by rw [hg]; exact (below_size (hB_)) : w.heap.size ≤ gb656); clear HB; obtain ⟨HB, BK656, GW656, GE656⟩ := n_; clear hb hbox hg; have hcz7_0 : w6.cell? ⟨gb656, 0, none⟩ = some (.int .i64 a0_0) := (blk_cell BK656.out 0).trans rfl; have hcz7_1 : w6.cell? ⟨gb656, 1, none⟩ = some (.slice A0_1 l0_1.length c0_1) := (blk_cell BK656.out 1).trans rfl; have hcz7_2 : w6.cell? ⟨gb656, 2, none⟩ = some (.slice A0_2 l0_2.length c0_2) := (blk_cell BK656.out 2).trans rfl; have hcz7_3 : w6.cell? ⟨gb656, 3, none⟩ = some (.string a0_3) := (blk_cell BK656.out 3).trans rfl; have hcz7_4 : w6.cell? ⟨gb656, 4, none⟩ = some (.int .i64 a0_4) := (blk_cell BK656.out 4).trans rfl; have hcz7_5 : w6.cell? ⟨gb656, 5, none⟩ = some (.slice A0_5 l0_5.length c0_5) := (blk_cell BK656.out 5).trans rfl; have hcz7_6 : w6.cell? ⟨gb656, 6, none⟩ = some (.slice A0_6 l0_6.length c0_6) := (blk_cell BK656.out 6).trans rfl; have hfz7_0 := blk_frozen BK656.out 0; have hfz7_1 := blk_frozen BK656.out 1; have hfz7_2 := blk_frozen BK656.out 2; have hfz7_3 := blk_frozen BK656.out 3; have hfz7_4 := blk_frozen BK656.out 4; have hfz7_5 := blk_frozen BK656.out 5; have hfz7_6 := blk_frozen BK656.out 6) | ((with_reducible refine gate_callee (f := 49) rfl ?_); refine goesL_ (some 5) rfl rfl Try.func49 (by kernel_rfl) rfl #[.agg #[.int .i64 a0_0, .slice A0_1 l0_1.length c0_1, .slice A0_2 l0_2.length c0_2]] rfl aM_ ?_; (with_reducible refine (spec_SigOk.calls k a0_0 _ _ l0_1 _ _ l0_2 true _ ?side1 ?side2 ?side3 ?side4 A2.out).mono ?_); (case side1 => exact cR_ (Kd.C_below HR0_1.out HB.out)); (case side2 => exact HC0_1.out); (case side3 => exact cR_ (Kd.C_below HR0_2.out HB.out)); (case side4 => exact HC0_2.out); rintro e w8 ⟨rfl, hb⟩; refine ⟨_, rfl, ?_⟩; have n_ := b_ (blk_below (g := gb656) (o := .cells #[.int .i64 a0_0, .slice A0_1 l0_1.length c0_1, .slice A0_2 l0_2.length c0_2, .string a0_3, .int .i64 a0_4, .slice A0_5 l0_5.length c0_5, .slice A0_6 l0_6.length c0_6] 39 (0, 0)) (rK_ BK656.out) hb) <| c_ (below_step (hS_ GE656.out) hb); clear BK656 HB; obtain ⟨BK656, HB⟩ := n_; have hcz9_0 : w8.cell? ⟨gb656, 0, none⟩ = some (.int .i64 a0_0) := (blk_cell BK656.out 0).trans rfl; have hcz9_1 : w8.cell? ⟨gb656, 1, none⟩ = some (.slice A0_1 l0_1.length c0_1) := (blk_cell BK656.out 1).trans rfl; have hcz9_2 : w8.cell? ⟨gb656, 2, none⟩ = some (.slice A0_2 l0_2.length c0_2) := (blk_cell BK656.out 2).trans rfl; have hcz9_3 : w8.cell? ⟨gb656, 3, none⟩ = some (.string a0_3) := (blk_cell BK656.out 3).trans rfl; have hcz9_4 : w8.cell? ⟨gb656, 4, none⟩ = some (.int .i64 a0_4) := (blk_cell BK656.out 4).trans rfl; have hcz9_5 : w8.cell? ⟨gb656, 5, none⟩ = some (.slice A0_5 l0_5.length c0_5) := (blk_cell BK656.out 5).trans rfl; have hcz9_6 : w8.cell? ⟨gb656, 6, none⟩ = some (.slice A0_6 l0_6.length c0_6) := (blk_cell BK656.out 6).trans rfl; have hfz9_0 := blk_frozen BK656.out 0; have hfz9_1 := blk_frozen BK656.out 1; have hfz9_2 := blk_frozen BK656.out 2; have hfz9_3 := blk_frozen BK656.out 3; have hfz9_4 := blk_frozen BK656.out 4; have hfz9_5 := blk_frozen BK656.out 5; have hfz9_6 := blk_frozen BK656.out 6) | (go_at_call 49; (with_reducible refine (spec_SigOk.calls k a0_4 _ _ l0_5 _ _ l0_6 true _ ?side1 ?side2 ?side3 ?side4 A4.out).mono ?_); (case side1 => exact cR_ (Kd.C_below HR0_5.out HB.out)); (case side2 => exact HC0_5.out); (case side3 => exact cR_ (Kd.C_below HR0_6.out HB.out)); (case side4 => exact HC0_6.out); rintro e w10 ⟨rfl, hb⟩; have n_ := b_ (blk_below (g := gb656) (o := .cells #[.int .i64 a0_0, .slice A0_1 l0_1.length c0_1, .slice A0_2 l0_2.length c0_2, .string a0_3, .int .i64 a0_4, .slice A0_5 l0_5.length c0_5, .slice A0_6 l0_6.length c0_6] 39 (0, 0)) (rK_ BK656.out) hb) <| c_ (below_step (hS_ GE656.out) hb); clear BK656 HB; obtain ⟨BK656, HB⟩ := n_; have hcz11_0 : w10.cell? ⟨gb656, 0, none⟩ = some (.int .i64 a0_0) := (blk_cell BK656.out 0).trans rfl; have hcz11_1 : w10.cell? ⟨gb656, 1, none⟩ = some (.slice A0_1 l0_1.length c0_1) := (blk_cell BK656.out 1).trans rfl; have hcz11_2 : w10.cell? ⟨gb656, 2, none⟩ = some (.slice A0_2 l0_2.length c0_2) := (blk_cell BK656.out 2).trans rfl; have hcz11_3 : w10.cell? ⟨gb656, 3, none⟩ = some (.string a0_3) := (blk_cell BK656.out 3).trans rfl; have hcz11_4 : w10.cell? ⟨gb656, 4, none⟩ = some (.int .i64 a0_4) := (blk_cell BK656.out 4).trans rfl; have hcz11_5 : w10.cell? ⟨gb656, 5, none⟩ = some (.slice A0_5 l0_5.length c0_5) := (blk_cell BK656.out 5).trans rfl; have hcz11_6 : w10.cell? ⟨gb656, 6, none⟩ = some (.slice A0_6 l0_6.length c0_6) := (blk_cell BK656.out 6).trans rfl; have hfz11_0 := blk_frozen BK656.out 0; have hfz11_1 := blk_frozen BK656.out 1; have hfz11_2 := blk_frozen BK656.out 2; have hfz11_3 := blk_frozen BK656.out 3; have hfz11_4 := blk_frozen BK656.out 4; have hfz11_5 := blk_frozen BK656.out 5; have hfz11_6 := blk_frozen BK656.out 6))
   go_ret
   exact ⟨by first | rfl | (simp [errW_none, errW_some] <;> rfl) | (simp [*, errW_none, errW_some] <;> rfl), hS_ GE656.out⟩
  ·replace c5 := Bool.eq_false_iff.mpr c5
   subst c5
   replace H := iF_ H
   obtain rfl := Option.some.inj H
   go_enter Try.func26, Try.ntmps26
   go_wp2_with (first | ((with_reducible refine gate_dst (N := 1) rfl ?_); refine box_event ?hg (N := 1) ?hd (cs := #[.int .i64 a0_0, .slice A0_1 l0_1.length c0_1, .slice A0_2 l0_2.length c0_2, .string a0_3, .int .i64 a0_4, .slice A0_5 l0_5.length c0_5, .slice A0_6 l0_6.length c0_6]) (t := 39) ?hr ?_; (case hd => rfl); (case hg => rfl); (case hr => first | (go_simp; done) | (go_simp; rfl)); intro gb656 hg w12 hbox hb; have n_ := b_ (below_step (hB_) hb) <| b_ (hbox) <| b_ (by rw [hg]; exact (below_size (hB_)) : w.heap.size ≤ gb656) <| c_ (by rw [hg]; exact (below_size (hB_)) : w.heap.size ≤ gb656); clear HB; obtain ⟨HB, BK656, GW656, GE656⟩ := n_; clear hb hbox hg; have hcz13_0 : w12.cell? ⟨gb656, 0, none⟩ = some (.int .i64 a0_0) := (blk_cell BK656.out 0).trans rfl; have hcz13_1 : w12.cell? ⟨gb656, 1, none⟩ = some (.slice A0_1 l0_1.length c0_1) := (blk_cell BK656.out 1).trans rfl; have hcz13_2 : w12.cell? ⟨gb656, 2, none⟩ = some (.slice A0_2 l0_2.length c0_2) := (blk_cell BK656.out 2).trans rfl; have hcz13_3 : w12.cell? ⟨gb656, 3, none⟩ = some (.string a0_3) := (blk_cell BK656.out 3).trans rfl; have hcz13_4 : w12.cell? ⟨gb656, 4, none⟩ = some (.int .i64 a0_4) := (blk_cell BK656.out 4).trans rfl; have hcz13_5 : w12.cell? ⟨gb656, 5, none⟩ = some (.slice A0_5 l0_5.length c0_5) := (blk_cell BK656.out 5).trans rfl; have hcz13_6 : w12.cell? ⟨gb656, 6, none⟩ = some (.slice A0_6 l0_6.length c0_6) := (blk_cell BK656.out 6).trans rfl; have hfz13_0 := blk_frozen BK656.out 0; have hfz13_1 := blk_frozen BK656.out 1; have hfz13_2 := blk_frozen BK656.out 2; have hfz13_3 := blk_frozen BK656.out 3; have hfz13_4 := blk_frozen BK656.out 4; have hfz13_5 := blk_frozen BK656.out 5; have hfz13_6 := blk_frozen BK656.out 6) | ((with_reducible refine gate_callee (f := 49) rfl ?_); refine goesL_ (some 5) rfl rfl Try.func49 (by kernel_rfl) rfl #[.agg #[.int .i64 a0_0, .slice A0_1 l0_1.length c0_1, .slice A0_2 l0_2.length c0_2]] rfl aM_ ?_; (with_reducible refine (spec_SigOk.calls k a0_0 _ _ l0_1 _ _ l0_2 true _ ?side1 ?side2 ?side3 ?side4 A2.out).mono ?_); (case side1 => exact cR_ (Kd.C_below HR0_1.out HB.out)); (case side2 => exact HC0_1.out); (case side3 => exact cR_ (Kd.C_below HR0_2.out HB.out)); (case side4 => exact HC0_2.out); rintro e w14 ⟨rfl, hb⟩; refine ⟨_, rfl, ?_⟩; have n_ := b_ (blk_below (g := gb656) (o := .cells #[.int .i64 a0_0, .slice A0_1 l0_1.length c0_1, .slice A0_2 l0_2.length c0_2, .string a0_3, .int .i64 a0_4, .slice A0_5 l0_5.length c0_5, .slice A0_6 l0_6.length c0_6] 39 (0, 0)) (rK_ BK656.out) hb) <| c_ (below_step (hS_ GE656.out) hb); clear BK656 HB; obtain ⟨BK656, HB⟩ := n_; have hcz15_0 : w14.cell? ⟨gb656, 0, none⟩ = some (.int .i64 a0_0) := (blk_cell BK656.out 0).trans rfl; have hcz15_1 : w14.cell? ⟨gb656, 1, none⟩ = some (.slice A0_1 l0_1.length c0_1) := (blk_cell BK656.out 1).trans rfl; have hcz15_2 : w14.cell? ⟨gb656, 2, none⟩ = some (.slice A0_2 l0_2.length c0_2) := (blk_cell BK656.out 2).trans rfl; have hcz15_3 : w14.cell? ⟨gb656, 3, none⟩ = some (.string a0_3) := (blk_cell BK656.out 3).trans rfl; have hcz15_4 : w14.cell? ⟨gb656, 4, none⟩ = some (.int .i64 a0_4) := (blk_cell BK656.out 4).trans rfl; have hcz15_5 : w14.cell? ⟨gb656, 5, none⟩ = some (.slice A0_5 l0_5.length c0_5) := (blk_cell BK656.out 5).trans rfl; have hcz15_6 : w14.cell? ⟨gb656, 6, none⟩ = some (.slice A0_6 l0_6.length c0_6) := (blk_cell BK656.out 6).trans rfl; have hfz15_0 := blk_frozen BK656.out 0; have hfz15_1 := blk_frozen BK656.out 1; have hfz15_2 := blk_frozen BK656.out 2; have hfz15_3 := blk_frozen BK656.out 3; have hfz15_4 := blk_frozen BK656.out 4; have hfz15_5 := blk_frozen BK656.out 5; have hfz15_6 := blk_frozen BK656.out 6) | (go_at_call 49; (with_reducible refine (spec_SigOk.calls k a0_4 _ _ l0_5 _ _ l0_6 false _ ?side1 ?side2 ?side3 ?side4 A4.out).mono ?_); (case side1 => exact cR_ (Kd.C_below HR0_5.out HB.out)); (case side2 => exact HC0_5.out); (case side3 => exact cR_ (Kd.C_below HR0_6.out HB.out)); (case side4 => exact HC0_6.out); rintro e w16 ⟨rfl, hb⟩; have n_ := b_ (blk_below (g := gb656) (o := .cells #[.int .i64 a0_0, .slice A0_1 l0_1.length c0_1, .slice A0_2 l0_2.length c0_2, .string a0_3, .int .i64 a0_4, .slice A0_5 l0_5.length c0_5, .slice A0_6 l0_6.length c0_6] 39 (0, 0)) (rK_ BK656.out) hb) <| c_ (below_step (hS_ GE656.out) hb); clear BK656 HB; obtain ⟨BK656, HB⟩ := n_; (try clear hb)))
   go_ret
   exact ⟨by first | rfl | (simp [errW_none, errW_some] <;> rfl) | (simp [*, errW_none, errW_some] <;> rfl), hS_ GE656.out⟩
 ·replace c3 := Bool.eq_false_iff.mpr c3
  subst c3
  replace H := iF_ H
  obtain rfl := Option.some.inj H
  go_enter Try.func26, Try.ntmps26
  go_wp2_with (first | ((with_reducible refine gate_dst (N := 1) rfl ?_); refine box_event ?hg (N := 1) ?hd (cs := #[.int .i64 a0_0, .slice A0_1 l0_1.length c0_1, .slice A0_2 l0_2.length c0_2, .string a0_3, .int .i64 a0_4, .slice A0_5 l0_5.length c0_5, .slice A0_6 l0_6.length c0_6]) (t := 39) ?hr ?_; (case hd => rfl); (case hg => rfl); (case hr => first | (go_simp; done) | (go_simp; rfl)); intro gb656 hg w17 hbox hb; have n_ := b_ (below_step (hB_) hb) <| b_ (hbox) <| b_ (by rw [hg]; exact (below_size (hB_)) : w.heap.size ≤ gb656) <| c_ (by rw [hg]; exact (below_size (hB_)) : w.heap.size ≤ gb656); clear HB; obtain ⟨HB, BK656, GW656, GE656⟩ := n_; clear hb hbox hg; have hcz18_0 : w17.cell? ⟨gb656, 0, none⟩ = some (.int .i64 a0_0) := (blk_cell BK656.out 0).trans rfl; have hcz18_1 : w17.cell? ⟨gb656, 1, none⟩ = some (.slice A0_1 l0_1.length c0_1) := (blk_cell BK656.out 1).trans rfl; have hcz18_2 : w17.cell? ⟨gb656, 2, none⟩ = some (.slice A0_2 l0_2.length c0_2) := (blk_cell BK656.out 2).trans rfl; have hcz18_3 : w17.cell? ⟨gb656, 3, none⟩ = some (.string a0_3) := (blk_cell BK656.out 3).trans rfl; have hcz18_4 : w17.cell? ⟨gb656, 4, none⟩ = some (.int .i64 a0_4) := (blk_cell BK656.out 4).trans rfl; have hcz18_5 : w17.cell? ⟨gb656, 5, none⟩ = some (.slice A0_5 l0_5.length c0_5) := (blk_cell BK656.out 5).trans rfl; have hcz18_6 : w17.cell? ⟨gb656, 6, none⟩ = some (.slice A0_6 l0_6.length c0_6) := (blk_cell BK656.out 6).trans rfl; have hfz18_0 := blk_frozen BK656.out 0; have hfz18_1 := blk_frozen BK656.out 1; have hfz18_2 := blk_frozen BK656.out 2; have hfz18_3 := blk_frozen BK656.out 3; have hfz18_4 := blk_frozen BK656.out 4; have hfz18_5 := blk_frozen BK656.out 5; have hfz18_6 := blk_frozen BK656.out 6) | ((with_reducible refine gate_callee (f := 49) rfl ?_); refine goesL_ (some 5) rfl rfl Try.func49 (by kernel_rfl) rfl #[.agg #[.int .i64 a0_0, .slice A0_1 l0_1.length c0_1, .slice A0_2 l0_2.length c0_2]] rfl aM_ ?_; (with_reducible refine (spec_SigOk.calls k a0_0 _ _ l0_1 _ _ l0_2 false _ ?side1 ?side2 ?side3 ?side4 A2.out).mono ?_); (case side1 => exact cR_ (Kd.C_below HR0_1.out HB.out)); (case side2 => exact HC0_1.out); (case side3 => exact cR_ (Kd.C_below HR0_2.out HB.out)); (case side4 => exact HC0_2.out); rintro e w19 ⟨rfl, hb⟩; refine ⟨_, rfl, ?_⟩; have n_ := b_ (blk_below (g := gb656) (o := .cells #[.int .i64 a0_0, .slice A0_1 l0_1.length c0_1, .slice A0_2 l0_2.length c0_2, .string a0_3, .int .i64 a0_4, .slice A0_5 l0_5.length c0_5, .slice A0_6 l0_6.length c0_6] 39 (0, 0)) (rK_ BK656.out) hb) <| c_ (below_step (hS_ GE656.out) hb); clear BK656 HB; obtain ⟨BK656, HB⟩ := n_; (try clear hb)))
  go_ret
  exact ⟨by first | rfl | (simp [errW_none, errW_some] <;> rfl) | (simp [*, errW_none, errW_some] <;> rfl), hS_ GE656.out⟩

end Go.Proofs.Ytnckhligcdieaaa.P
