-- printed texts of this session, regrouped
import Derived.Test.YtnckhligcdieaaaMW6
import Derived.Test.YtnckhligcdieaaaHB3
import Derived.Test.YtnckhligcdieaaaPx0
import Derived.Test.YtnckhligcdieaaaPx2
namespace Go.Proofs.Ytnckhligcdieaaa.P
open Go.RowKit Go.Proofs.YtnckhligcdieaaaW.PrintWords Go.Proofs.YtnckhligcdieaaaW.PrintLast Go.Proofs.YtnckhligcdieaaaW.PrintMore
attribute [local go_sem] max2_int min2_int max_two min_two max_three min_three max_four min_four   -- for this text's walks alone
set_option linter.unusedVariables false
set_option linter.unusedSimpArgs false

/-! ### impl_StreamTake: function 37 -/
mutual
def impl_StreamTake.j0 : Nat → Int → Bool → ByteArray → Int → Option (ByteArray × Int × ByteArray)
 | 0, _, _, _, _ => none
 | k + 1, x1, x22, x200000, x200001 => if x22 = true then (some (x200000, x200001, (⟨#[]⟩ : ByteArray))) else (impl_StreamTake.l0 k x1 (⟨#[]⟩ : ByteArray) x200000 x200001)
def impl_StreamTake.l0 : Nat → Int → ByteArray → ByteArray → Int → Option (ByteArray × Int × ByteArray)
 | 0, _, _, _, _ => none
 | k + 1, x1, x6, x200000, x200001 => if (x6.size : Int) < x1 then (if x200001 = 168 then ((impl_Permute.f x200000).bind fun t203 => (if 0 ≤ (wrap64 (0 + (mn (wrap64 (x1 - (x6.size : Int))) 168))) then (if (wrap64 (0 + (mn (wrap64 (x1 - (x6.size : Int))) 168))) ≤ (t203.size : Int) then (if x6.size + (t203.extract 0 ((wrap64 (0 + (mn (wrap64 (x1 - (x6.size : Int))) 168))) : Int).toNat).size ≤ 9223372036854775807 then (impl_StreamTake.l0 k x1 (x6 ++ (t203.extract 0 ((wrap64 (0 + (mn (wrap64 (x1 - (x6.size : Int))) 168))) : Int).toNat)) t203 (wrap64 (0 + (mn (wrap64 (x1 - (x6.size : Int))) 168)))) else (none)) else (none)) else (none))) else (if 0 ≤ x200001 then (if x200001 ≤ (wrap64 (x200001 + (mn (wrap64 (x1 - (x6.size : Int))) (wrap64 (168 - x200001))))) then (if (wrap64 (x200001 + (mn (wrap64 (x1 - (x6.size : Int))) (wrap64 (168 - x200001))))) ≤ (x200000.size : Int) then (if x6.size + (x200000.extract (x200001 : Int).toNat ((wrap64 (x200001 + (mn (wrap64 (x1 - (x6.size : Int))) (wrap64 (168 - x200001))))) : Int).toNat).size ≤ 9223372036854775807 then (impl_StreamTake.l0 k x1 (x6 ++ (x200000.extract (x200001 : Int).toNat ((wrap64 (x200001 + (mn (wrap64 (x1 - (x6.size : Int))) (wrap64 (168 - x200001))))) : Int).toNat)) x200000 (wrap64 (x200001 + (mn (wrap64 (x1 - (x6.size : Int))) (wrap64 (168 - x200001)))))) else (none)) else (none)) else (none)) else (none))) else (some (x200000, x200001, x6))
end
def impl_StreamTake.f (k : Nat) (a0_0 : ByteArray) (a0_1 : Int) (a1 : Int) : Option (ByteArray × Int × ByteArray) := (impl_in.f a1 0 4000).bind fun t201 => (if t201 = true then (if (a0_0.size : Int) = 200 then ((impl_in.f a0_1 0 168).bind fun t202 => (impl_StreamTake.j0 k a1 (!t202) a0_0 a0_1)) else (impl_StreamTake.j0 k a1 true a0_0 a0_1)) else (impl_StreamTake.j0 k a1 true a0_0 a0_1))
theorem impl_StreamTake.mono_l : ∀ k, (∀ y0 y1 y2 y3, LeO (impl_StreamTake.j0 k y0 y1 y2 y3) (impl_StreamTake.j0 (k + 1) y0 y1 y2 y3)) ∧ (∀ y0 y1 y2 y3, LeO (impl_StreamTake.l0 k y0 y1 y2 y3) (impl_StreamTake.l0 (k + 1) y0 y1 y2 y3))
 | 0 => ⟨fun _ _ _ _ r h => by simp [impl_StreamTake.j0] at h, fun _ _ _ _ r h => by simp [impl_StreamTake.l0] at h⟩
 | k + 1 => by
  obtain ⟨ih0, ih1⟩ := impl_StreamTake.mono_l k
  refine ⟨?_, ?_⟩
  ·intro y0 y1 y2 y3
   unfold impl_StreamTake.j0
   repeat' first
   | (with_reducible exact ih0 _ _ _ _)
   | (with_reducible exact ih1 _ _ _ _)
   | (with_reducible exact LeO.refl _)
   | (with_reducible exact LeO.none _)
   | (with_reducible refine LeO.ite ?_ ?_)
   | (with_reducible refine LeO.bind ?_ (fun _ => ?_))
   | exact ih0 _ _ _ _
   | exact ih1 _ _ _ _
   | exact LeO.none _
   | refine LeO.ite ?_ ?_
   | refine LeO.bind ?_ (fun _ => ?_)
  ·intro y0 y1 y2 y3
   unfold impl_StreamTake.l0
   repeat' first
   | (with_reducible exact ih0 _ _ _ _)
   | (with_reducible exact ih1 _ _ _ _)
   | (with_reducible exact LeO.refl _)
   | (with_reducible exact LeO.none _)
   | (with_reducible refine LeO.ite ?_ ?_)
   | (with_reducible refine LeO.bind ?_ (fun _ => ?_))
   | exact ih0 _ _ _ _
   | exact ih1 _ _ _ _
   | exact LeO.none _
   | refine LeO.ite ?_ ?_
   | refine LeO.bind ?_ (fun _ => ?_)
theorem impl_StreamTake.mono : ∀ a0 a1 a2 k, LeO (impl_StreamTake.f k a0 a1 a2) (impl_StreamTake.f (k + 1) a0 a1 a2) := by
 intro a0 a1 a2 k
 obtain ⟨ih0, ih1⟩ := impl_StreamTake.mono_l k
 unfold impl_StreamTake.f
 repeat' first
   | (with_reducible exact ih0 _ _ _ _)
   | (with_reducible exact ih1 _ _ _ _)
   | (with_reducible exact LeO.refl _)
   | (with_reducible exact LeO.none _)
   | (with_reducible refine LeO.ite ?_ ?_)
   | (with_reducible refine LeO.bind ?_ (fun _ => ?_))
   | exact ih0 _ _ _ _
   | exact ih1 _ _ _ _
   | exact LeO.none _
   | refine LeO.ite ?_ ?_
   | refine LeO.bind ?_ (fun _ => ?_)
set_option maxHeartbeats 8000000 in
set_option maxRecDepth 100000 in
theorem impl_StreamTake.calls (k : Nat) (a0_0 : ByteArray) (a0_1 : Int) (a1 : Int) (r1 : ByteArray) (r2 : Int) (r3 : ByteArray) (w : World) (h : impl_StreamTake.f k a0_0 a0_1 a1 = some (r1, r2, r3)) :
  Calls Try.prog 37 #[.agg #[.string a0_0, .int .i64 a0_1], .int .i64 a1] w fun e w' => e = .returned (.tuple #[.agg #[.string r1, .int .i64 r2], .string r3]) ∧ Below w.heap.size w w' := by
 have hu53 := Try.underlying53
 have HB := Aside0.mk (Below.refl w.heap.size w)
 have H : ((impl_in.f a1 0 4000).bind fun t201 => (if t201 = true then (if (a0_0.size : Int) = 200 then ((impl_in.f a0_1 0 168).bind fun t202 => (impl_StreamTake.j0 k a1 (!t202) a0_0 a0_1)) else (impl_StreamTake.j0 k a1 true a0_0 a0_1)) else (impl_StreamTake.j0 k a1 true a0_0 a0_1))) = some (r1, r2, r3) := h
 clear h
 have HC3 := Aside0.mk H
 clear H
 go_enter Try.func37, Try.ntmps37
 go_upto_region 1 with (first | ((with_reducible refine gate_dst (N := 2) rfl ?_); (try (refine gate_guard (by rfl) ?_; dsimp only)); refine box_event ?hg (N := 2) ?hd (cs := #[.string a0_0, .int .i64 a0_1]) (t := 53) ?hr ?_; (case hd => rfl); (case hg => rfl); (case hr => first | (go_simp; done) | (go_simp; rfl)); intro gb199 hg w4 hbox hb; have n0_ := Aside0.mk (below_step (hB_) hb); have n1_ := Aside0.mk (hbox); have n2_ := Aside0.mk ((by rw [hg]; exact (below_size (hB_)) : w.heap.size ≤ gb199)); have n3_ := Aside0.mk ((by rw [hg]; exact (below_size (hB_)) : w.heap.size ≤ gb199)); clear HB; have HB := n0_; have BK199 := n1_; have GW199 := n2_; have GE199 := n3_; clear n0_ n1_ n2_ n3_; clear hb hbox hg) | ((with_reducible refine gate_dst (N := 4) rfl ?_); (try (refine gate_guard (by rfl) ?_; dsimp only)); refine box_event ?hg (N := 4) ?hd (cs := #[.string (⟨#[]⟩ : ByteArray), .int .i64 0]) (t := 53) ?hr ?_; (case hd => rfl); (case hg => rfl); (case hr => first | (go_simp; done) | (go_simp; rfl)); intro gb200 hg w5 hbox hb; have n0_ := Aside0.mk (blk_below (g := gb199) (o := .cells #[.string a0_0, .int .i64 a0_1] 53 (0, 0)) (rK_ BK199.out) hb); have n1_ := Aside0.mk (below_step (hS_ GE199.out) hb); have n2_ := Aside0.mk (hbox); have n3_ := Aside0.mk ((by rw [hg]; exact (below_size (hS_ GE199.out)) : w.heap.size ≤ gb200)); have n4_ := Aside0.mk ((by rw [hg]; exact (below_size (hS_ GE199.out)) : w.heap.size ≤ gb200)); have n5_ := Aside0.mk ((by rw [hg]; exact Nat.ne_of_lt (blk_lt (g := gb199) (o := .cells #[.string a0_0, .int .i64 a0_1] 53 (0, 0)) (rK_ BK199.out)) : gb199 ≠ gb200)); have n6_ := Aside0.mk ((by rw [hg]; exact Nat.ne_of_gt (blk_lt (g := gb199) (o := .cells #[.string a0_0, .int .i64 a0_1] 53 (0, 0)) (rK_ BK199.out)) : gb200 ≠ gb199)); clear BK199; clear HB; have BK199 := n0_; have HB := n1_; have BK200 := n2_; have GW200 := n3_; have GE200 := n4_; have NB199_200 := n5_; have NB200_199 := n6_; clear n0_ n1_ n2_ n3_ n4_ n5_ n6_; clear hb hbox hg))
 (try simp only [Act.put, List.setIfInBounds_toArray, List.set_cons_zero, List.set_cons_succ])
 go_cut [22] (fun v22 wc => ∃ (kq : Nat) (x22_2 : Bool), v22 = .bool x22_2 ∧ Aside0 (impl_StreamTake.j0 kq a1 x22_2 a0_0 a0_1 = some (r1, r2, r3)) ∧ Aside0 (kq ≤ k) ∧ Aside0 (wc.heap[gb199]? = some (.cells #[.string a0_0, .int .i64 a0_1] 53 (0, 0))) ∧ Aside0 (wc.heap[gb200]? = some (.cells #[.string (⟨#[]⟩ : ByteArray), .int .i64 0] 53 (0, 0))) ∧ Aside0 (Below w.heap.size w wc))
 case first =>
  have H := HC3.out
  clear HC3
  replace H := Option.bind_eq_some_iff.mp H
  obtain ⟨t201, A60, H⟩ := H
  replace H : (if t201 = true then (if (a0_0.size : Int) = 200 then ((impl_in.f a0_1 0 168).bind fun t202 => (impl_StreamTake.j0 k a1 (!t202) a0_0 a0_1)) else (impl_StreamTake.j0 k a1 true a0_0 a0_1)) else (impl_StreamTake.j0 k a1 true a0_0 a0_1)) = some (r1, r2, r3) := H
  have A6 := Aside0.mk A60
  clear A60
  by_cases c7 : t201 = true
  ·subst c7
   have H1 : (if (a0_0.size : Int) = 200 then ((impl_in.f a0_1 0 168).bind fun t202 => (impl_StreamTake.j0 k a1 (!t202) a0_0 a0_1)) else (impl_StreamTake.j0 k a1 true a0_0 a0_1)) = some (r1, r2, r3) := by rw [if_pos rfl] at H; exact H
   clear H
   have H := H1
   clear H1
   by_cases c8 : (a0_0.size : Int) = 200
   ·rw [if_pos c8] at H
    have c8b0 : ((a0_0.size : Int) == 200) = true := beq_iff_eq.mpr c8
    have c8b1 : ((a0_0.size : Int) != 200) = false := bne_eq_false_iff_eq.mpr c8
    clear c8
    (first | rw [c8b0] | (simp only [i64_w, i32_w]; rw [c8b0]) | skip)
    replace H := Option.bind_eq_some_iff.mp H
    obtain ⟨t202, A90, H⟩ := H
    replace H : (impl_StreamTake.j0 k a1 (!t202) a0_0 a0_1) = some (r1, r2, r3) := H
    have A9 := Aside0.mk A90
    clear A90
    have H' := Aside0.mk H
    clear H
    go_wp2_with (first | ((with_reducible refine gate_callee (f := 41) rfl ?_); refine goesL_ (some 9) rfl rfl Try.func41 (by kernel_rfl) rfl #[.int .i64 a1, .int .i64 0, .int .i64 4000] rfl aM_ ?_; (with_reducible refine (impl_in.calls a1 0 4000 true _ A6.out).mono ?_); rintro e w' ⟨rfl, ⟨nd, rfl⟩⟩; refine ⟨_, rfl, ?_⟩; have hnb10 := NB199_200.out; have hnc10 := NB200_199.out; have hcz11_0 : w5.cell? ⟨gb199, 0, none⟩ = some (.string a0_0) := (blk_cell BK199.out 0).trans rfl; have hcz11_1 : w5.cell? ⟨gb199, 1, none⟩ = some (.int .i64 a0_1) := (blk_cell BK199.out 1).trans rfl; have hfz11_0 := blk_frozen BK199.out 0; have hfz11_1 := blk_frozen BK199.out 1) | (go_at_call 41; (with_reducible refine (impl_in.calls a0_1 0 168 t202 _ A9.out).mono ?_); rintro e w' ⟨rfl, ⟨nd, rfl⟩⟩))
    go_meet
    case rel => exact ⟨_, (!t202), (by first | rfl | (simp; done) | (simp [*]; done)), H', ⟨by first | omega | exact Nat.le_refl _⟩, ⟨by (with_reducible repeat (first | refine blk_drewN ?_ _ | refine blk_drew ?_ | refine blk_alloc ?_ _)); exact BK199.out⟩, ⟨by (with_reducible repeat (first | refine blk_drewN ?_ _ | refine blk_drew ?_ | refine blk_alloc ?_ _)); exact BK200.out⟩, ⟨by repeat (first | (with_reducible first | exact HB.out | apply below_alloc | apply pw_below_drewN | apply below_drew1 | refine below_set ?_ GE199.out | refine below_set ?_ GE200.out) | exact HB.out)⟩⟩
   ·rw [if_neg c8] at H
    have c8b0 : ((a0_0.size : Int) == 200) = false := beq_eq_false_iff_ne.mpr c8
    have c8b1 : ((a0_0.size : Int) != 200) = true := bne_iff_ne.mpr c8
    (first | rw [c8b0] | (simp only [i64_w, i32_w]; rw [c8b0]) | skip)
    have H' := Aside0.mk H
    clear H
    go_wp2_with (first | ((with_reducible refine gate_callee (f := 41) rfl ?_); refine goesL_ (some 9) rfl rfl Try.func41 (by kernel_rfl) rfl #[.int .i64 a1, .int .i64 0, .int .i64 4000] rfl aM_ ?_; (with_reducible refine (impl_in.calls a1 0 4000 true _ A6.out).mono ?_); rintro e w' ⟨rfl, ⟨nd, rfl⟩⟩; refine ⟨_, rfl, ?_⟩; have hnb12 := NB199_200.out; have hnc12 := NB200_199.out; have hcz13_0 : w5.cell? ⟨gb199, 0, none⟩ = some (.string a0_0) := (blk_cell BK199.out 0).trans rfl; have hcz13_1 : w5.cell? ⟨gb199, 1, none⟩ = some (.int .i64 a0_1) := (blk_cell BK199.out 1).trans rfl; have hfz13_0 := blk_frozen BK199.out 0; have hfz13_1 := blk_frozen BK199.out 1))
    go_meet
    case rel => exact ⟨_, (true), (by first | rfl | (simp; done) | (simp [*]; done)), H', ⟨by first | omega | exact Nat.le_refl _⟩, ⟨by (with_reducible repeat (first | refine blk_drewN ?_ _ | refine blk_drew ?_ | refine blk_alloc ?_ _)); exact BK199.out⟩, ⟨by (with_reducible repeat (first | refine blk_drewN ?_ _ | refine blk_drew ?_ | refine blk_alloc ?_ _)); exact BK200.out⟩, ⟨by repeat (first | (with_reducible first | exact HB.out | apply below_alloc | apply pw_below_drewN | apply below_drew1 | refine below_set ?_ GE199.out | refine below_set ?_ GE200.out) | exact HB.out)⟩⟩
  ·replace c7 := Bool.eq_false_iff.mpr c7
   subst c7
   have H1 : (impl_StreamTake.j0 k a1 true a0_0 a0_1) = some (r1, r2, r3) := by rw [if_neg (show ¬ (false = true) by decide)] at H; exact H
   clear H
   have H := H1
   clear H1
   have H' := Aside0.mk H
   clear H
   go_wp2_with (first | ((with_reducible refine gate_callee (f := 41) rfl ?_); refine goesL_ (some 9) rfl rfl Try.func41 (by kernel_rfl) rfl #[.int .i64 a1, .int .i64 0, .int .i64 4000] rfl aM_ ?_; (with_reducible refine (impl_in.calls a1 0 4000 false _ A6.out).mono ?_); rintro e w' ⟨rfl, ⟨nd, rfl⟩⟩; refine ⟨_, rfl, ?_⟩))
   go_meet
   case rel => exact ⟨_, (true), (by first | rfl | (simp; done) | (simp [*]; done)), H', ⟨by first | omega | exact Nat.le_refl _⟩, ⟨by (with_reducible repeat (first | refine blk_drewN ?_ _ | refine blk_drew ?_ | refine blk_alloc ?_ _)); exact BK199.out⟩, ⟨by (with_reducible repeat (first | refine blk_drewN ?_ _ | refine blk_drew ?_ | refine blk_alloc ?_ _)); exact BK200.out⟩, ⟨by repeat (first | (with_reducible first | exact HB.out | apply below_alloc | apply pw_below_drewN | apply below_drew1 | refine below_set ?_ GE199.out | refine below_set ?_ GE200.out) | exact HB.out)⟩⟩
 case rest =>
  clear HC3
  try clear c1
  try clear p2
  try clear c3
  try clear c4
  try clear c7
  try clear c8
  try clear c8b0
  try clear c8b1
  try clear c10
  try clear c12
  try clear hcz11_0
  try clear hcz11_1
  try clear hcz13_0
  try clear hcz13_1
  try clear hfz11_0
  try clear hfz11_1
  try clear hfz13_0
  try clear hfz13_1
  obtain ⟨kq, x22_2, rfl, HA, HJ2, BK199, BK200, HB⟩ := hcut
  cases kq with
  | zero => exact absurd HA.out (by simp [impl_StreamTake.j0])
  | succ kj2 =>
   have H := HA.out
   clear HA
   simp only [impl_StreamTake.j0] at H
   by_cases c14 : x22_2 = true
   ·subst c14
    have H1 : (some (a0_0, a0_1, (⟨#[]⟩ : ByteArray))) = some (r1, r2, r3) := by rw [if_pos rfl] at H; exact H
    clear H
    have H := H1
    clear H1
    simp only [Option.some.injEq, Prod.mk.injEq] at H
    obtain ⟨rfl, rfl, rfl⟩ := H
    have hnb15 := NB199_200.out
    have hnc15 := NB200_199.out
    have hcz16_0 : wc.cell? ⟨gb199, 0, none⟩ = some (.string a0_0) := (blk_cell BK199.out 0).trans rfl
    have hcz16_1 : wc.cell? ⟨gb199, 1, none⟩ = some (.int .i64 a0_1) := (blk_cell BK199.out 1).trans rfl
    have hfz16_0 := blk_frozen BK199.out 0
    have hfz16_1 := blk_frozen BK199.out 1
    have hcz17_0 : wc.cell? ⟨gb200, 0, none⟩ = some (.string (⟨#[]⟩ : ByteArray)) := (blk_cell BK200.out 0).trans rfl
    have hcz17_1 : wc.cell? ⟨gb200, 1, none⟩ = some (.int .i64 0) := (blk_cell BK200.out 1).trans rfl
    have hfz17_0 := blk_frozen BK200.out 0
    have hfz17_1 := blk_frozen BK200.out 1
    go_wp2
    refine bodyPost_ret (results_ct rfl _ _ gb200 53 #[.string a0_0, .int .i64 a0_1] (0, 0) _ rfl (by (with_reducible repeat (first | refine blk_drewN ?_ _ | refine blk_drew ?_ | refine blk_alloc ?_ _)); refine blk_put (cs := #[.string a0_0, .int .i64 0]) ?_ 1 _ rfl; (with_reducible repeat (first | refine blk_drewN ?_ _ | refine blk_drew ?_ | refine blk_alloc ?_ _)); refine blk_put (cs := #[.string (⟨#[]⟩ : ByteArray), .int .i64 0]) ?_ 0 _ rfl; exact rK_ BK200.out) Try.underlying53 rfl (by kernel_rfl)) rfl ?_
    exact ⟨by first | rfl | (simp [errW_none, errW_some] <;> rfl) | (simp [*, errW_none, errW_some] <;> rfl), by repeat (first | (with_reducible first | exact HB.out | apply below_alloc | apply pw_below_drewN | apply below_drew1 | refine below_set ?_ GE199.out | refine below_set ?_ GE200.out) | exact HB.out)⟩
   ·replace c14 := Bool.eq_false_iff.mpr c14
    subst c14
    have H1 : (impl_StreamTake.l0 kj2 a1 (⟨#[]⟩ : ByteArray) a0_0 a0_1) = some (r1, r2, r3) := by rw [if_neg (show ¬ (false = true) by decide)] at H; exact H
    clear H
    have H := H1
    clear H1
    have H' := Aside0.mk H
    clear H
    go_wp2
    go_loopg [6] kj2 (fun kq v6 w' => ∃ (x6_2 : ByteArray) (x200000_2 : ByteArray) (x200001_2 : Int), v6 = .string x6_2 ∧ Aside0 (impl_StreamTake.l0 kq a1 x6_2 x200000_2 x200001_2 = some (r1, r2, r3)) ∧ Aside0 (kq ≤ kj2) ∧ Aside0 (w'.heap[gb199]? = some (.cells #[.string x200000_2, .int .i64 x200001_2] 53 (0, 0))) ∧ Aside0 (w'.heap[gb200]? = some (.cells #[.string (⟨#[]⟩ : ByteArray), .int .i64 0] 53 (0, 0))) ∧ Aside0 (Below w.heap.size w w'))
    case atStart => exact ⟨((⟨#[]⟩ : ByteArray)), (a0_0), (a0_1), (by first | rfl | (simp; done) | (simp [*]; done)), H', ⟨Nat.le_refl _⟩, ⟨by (with_reducible repeat (first | refine blk_drewN ?_ _ | refine blk_drew ?_ | refine blk_alloc ?_ _)); exact BK199.out⟩, ⟨by (with_reducible repeat (first | refine blk_drewN ?_ _ | refine blk_drew ?_ | refine blk_alloc ?_ _)); exact BK200.out⟩, ⟨by repeat (first | (with_reducible first | exact HB.out | apply below_alloc | apply pw_below_drewN | apply below_drew1 | refine below_set ?_ GE199.out | refine below_set ?_ GE200.out) | exact HB.out)⟩⟩
    case round =>
     clear H'
     try clear c1
     try clear p2
     try clear c3
     try clear c4
     try clear c7
     try clear c8
     try clear c8b0
     try clear c8b1
     try clear c10
     try clear c12
     try clear c14
     try clear c15
     try clear hcz11_0
     try clear hcz11_1
     try clear hcz13_0
     try clear hcz13_1
     try clear hcz16_0
     try clear hcz16_1
     try clear hcz17_0
     try clear hcz17_1
     try clear hfz11_0
     try clear hfz11_1
     try clear hfz13_0
     try clear hfz13_1
     try clear hfz16_0
     try clear hfz16_1
     try clear hfz17_0
     try clear hfz17_1
     try clear p2
     obtain ⟨x6_2, x200000_2, x200001_2, rfl, HA, HK2, BK199, BK200, HB⟩ := hrel
     cases gk with
     | zero => exact absurd HA.out (by simp [impl_StreamTake.l0])
     | succ k2 =>
      have H := HA.out
      clear HA
      simp only [impl_StreamTake.l0] at H
      by_cases c18 : (x6_2.size : Int) < a1
      ·rw [if_pos c18] at H
       have c18b0 : decide ((x6_2.size : Int) < a1) = true := decide_eq_true c18
       clear c18
       by_cases c19 : x200001_2 = 168
       ·rw [if_pos c19] at H
        have c19b0 : (x200001_2 == 168) = true := beq_iff_eq.mpr c19
        have c19b1 : (x200001_2 != 168) = false := bne_eq_false_iff_eq.mpr c19
        clear c19
        replace H := Option.bind_eq_some_iff.mp H
        obtain ⟨t203, A200, H⟩ := H
        replace H : (if 0 ≤ (wrap64 (0 + (mn (wrap64 (a1 - (x6_2.size : Int))) 168))) then (if (wrap64 (0 + (mn (wrap64 (a1 - (x6_2.size : Int))) 168))) ≤ (t203.size : Int) then (if x6_2.size + (t203.extract 0 ((wrap64 (0 + (mn (wrap64 (a1 - (x6_2.size : Int))) 168))) : Int).toNat).size ≤ 9223372036854775807 then (impl_StreamTake.l0 k2 a1 (x6_2 ++ (t203.extract 0 ((wrap64 (0 + (mn (wrap64 (a1 - (x6_2.size : Int))) 168))) : Int).toNat)) t203 (wrap64 (0 + (mn (wrap64 (a1 - (x6_2.size : Int))) 168)))) else (none)) else (none)) else (none)) = some (r1, r2, r3) := H
        have A20 := Aside0.mk A200
        clear A200
        obtain ⟨ji21, hji21⟩ : ∃ j_ : Int, (mn (wrap64 (a1 - (x6_2.size : Int))) 168) = j_ := ⟨_, rfl⟩
        replace H : (if 0 ≤ (wrap64 (0 + (ji21))) then (if (wrap64 (0 + (ji21))) ≤ (t203.size : Int) then (if x6_2.size + (t203.extract 0 ((wrap64 (0 + (ji21))) : Int).toNat).size ≤ 9223372036854775807 then (impl_StreamTake.l0 k2 a1 (x6_2 ++ (t203.extract 0 ((wrap64 (0 + (ji21))) : Int).toNat)) t203 (wrap64 (0 + (ji21)))) else (none)) else (none)) else (none)) = some (r1, r2, r3) := by first | (rw [hji21] at H; exact H) | (simp only [hji21] at H ⊢; exact H)
        (try rw [hji21] at A20)
        have hji21_ : (if 168 < (wrap64 (a1 - (x6_2.size : Int))) then 168 else (wrap64 (a1 - (x6_2.size : Int)))) = ji21 := hji21
        obtain ⟨ji22, hji22⟩ : ∃ j_ : Int, (wrap64 (0 + (ji21))) = j_ := ⟨_, rfl⟩
        replace H : (if 0 ≤ (ji22) then (if (ji22) ≤ (t203.size : Int) then (if x6_2.size + (t203.extract 0 ((ji22) : Int).toNat).size ≤ 9223372036854775807 then (impl_StreamTake.l0 k2 a1 (x6_2 ++ (t203.extract 0 ((ji22) : Int).toNat)) t203 ji22) else (none)) else (none)) else (none)) = some (r1, r2, r3) := by first | (rw [hji22] at H; exact H) | (simp only [hji22] at H ⊢; exact H)
        (try rw [hji22] at A20)
        have hji22w : (IntKind.i64.wrap (0 + (ji21))) = ji22 := (i64_w _).trans hji22
        have hji22z : (wrap64 (ji21)) = ji22 := by rw [← hji22, Int.zero_add]
        have hji22y : IntKind.i64.wrap (ji21) = ji22 := (i64_w _).trans hji22z
        by_cases c23 : 0 ≤ (ji22)
        ·rw [if_pos c23] at H
         have c23b0 := eq_true c23
         have c23b1 : decide (0 ≤ (ji22)) = true := decide_eq_true c23
         clear c23
         by_cases c24 : (ji22) ≤ (t203.size : Int)
         ·rw [if_pos c24] at H
          have c24b0 := eq_true c24
          have c24b1 : decide ((ji22) ≤ (t203.size : Int)) = true := decide_eq_true c24
          clear c24
          by_cases c25 : x6_2.size + (t203.extract 0 ((ji22) : Int).toNat).size ≤ 9223372036854775807
          ·rw [if_pos c25] at H
           have c25b0 := eq_true c25
           have c25b1 : decide (x6_2.size + (t203.extract 0 ((ji22) : Int).toNat).size ≤ 9223372036854775807) = true := decide_eq_true c25
           try have c25b2 : (9223372036854775807 < x6_2.size + (t203.extract 0 ((ji22) : Int).toNat).size) = False := eq_false (Nat.not_lt.2 c25)
           have H' := Aside0.mk H
           clear H
           have hnb26 := NB199_200.out
           have hnc26 := NB200_199.out
           have hcz27_0 : wr.cell? ⟨gb199, 0, none⟩ = some (.string x200000_2) := (blk_cell BK199.out 0).trans rfl
           have hcz27_1 : wr.cell? ⟨gb199, 1, none⟩ = some (.int .i64 x200001_2) := (blk_cell BK199.out 1).trans rfl
           have hfz27_0 := blk_frozen BK199.out 0
           have hfz27_1 := blk_frozen BK199.out 1
           go_wp2_with (first | ((with_reducible refine gate_callee (f := 74) rfl ?_); refine goesL_ (some 33) rfl rfl Try.func74 (by kernel_rfl) rfl #[.string x200000_2] rfl aM_ ?_; (with_reducible refine (impl_Permute.calls x200000_2 t203 _ A20.out).mono ?_); rintro e w28 ⟨rfl, hb⟩; refine ⟨_, rfl, ?_⟩; have n0_ := Aside0.mk (blk_below (g := gb199) (o := .cells #[.string x200000_2, .int .i64 x200001_2] 53 (0, 0)) (rK_ BK199.out) hb); have n1_ := Aside0.mk (blk_below (g := gb200) (o := .cells #[.string (⟨#[]⟩ : ByteArray), .int .i64 0] 53 (0, 0)) (rK_ BK200.out) hb); have n2_ := Aside0.mk (below_step (by repeat (first | (with_reducible first | exact HB.out | apply below_alloc | apply pw_below_drewN | apply below_drew1 | refine below_set ?_ GE199.out | refine below_set ?_ GE200.out) | exact HB.out)) hb); clear BK199; clear BK200; clear HB; have BK199 := n0_; have BK200 := n1_; have HB := n2_; clear n0_ n1_ n2_; (try clear hb); (try clear hb2); (try clear hk); (try clear hi); have hcz29_0 : w28.cell? ⟨gb199, 0, none⟩ = some (.string x200000_2) := (blk_cell BK199.out 0).trans rfl; have hcz29_1 : w28.cell? ⟨gb199, 1, none⟩ = some (.int .i64 x200001_2) := (blk_cell BK199.out 1).trans rfl; have hfz29_0 := blk_frozen BK199.out 0; have hfz29_1 := blk_frozen BK199.out 1))
           go_roundg k2
           case measure => have := HJ2.out; have := HK2.out; omega
           case rel => exact ⟨(x6_2 ++ (t203.extract 0 ((ji22) : Int).toNat)), (t203), (ji22), (by first | rfl | (simp; done) | (simp only [← hji22] <;> (first | rfl | simp)) | (simp [*]; done)), H', ⟨by have := HJ2.out; have := HK2.out; omega⟩, ⟨by (with_reducible repeat (first | refine blk_drewN ?_ _ | refine blk_drew ?_ | refine blk_alloc ?_ _)); refine blk_put (cs := #[.string t203, .int .i64 0]) ?_ 1 _ rfl; (with_reducible repeat (first | refine blk_drewN ?_ _ | refine blk_drew ?_ | refine blk_alloc ?_ _)); refine blk_put (cs := #[.string t203, .int .i64 x200001_2]) ?_ 1 _ rfl; (with_reducible repeat (first | refine blk_drewN ?_ _ | refine blk_drew ?_ | refine blk_alloc ?_ _)); refine blk_put (cs := #[.string x200000_2, .int .i64 x200001_2]) ?_ 0 _ rfl; (with_reducible repeat (first | refine blk_drewN ?_ _ | refine blk_drew ?_ | refine blk_alloc ?_ _)); exact BK199.out⟩, ⟨by (with_reducible repeat (first | refine blk_drewN ?_ _ | refine blk_drew ?_ | refine blk_alloc ?_ _)); refine blk_far ?_ NB200_199.out _; (with_reducible repeat (first | refine blk_drewN ?_ _ | refine blk_drew ?_ | refine blk_alloc ?_ _)); refine blk_far ?_ NB200_199.out _; (with_reducible repeat (first | refine blk_drewN ?_ _ | refine blk_drew ?_ | refine blk_alloc ?_ _)); refine blk_far ?_ NB200_199.out _; (with_reducible repeat (first | refine blk_drewN ?_ _ | refine blk_drew ?_ | refine blk_alloc ?_ _)); exact BK200.out⟩, ⟨by repeat (first | (with_reducible first | exact HB.out | apply below_alloc | apply pw_below_drewN | apply below_drew1 | refine below_set ?_ GE199.out | refine below_set ?_ GE200.out) | exact HB.out)⟩⟩
          ·rw [if_neg c25] at H
           exact absurd H (by simp)
         ·rw [if_neg c24] at H
          exact absurd H (by simp)
        ·rw [if_neg c23] at H
         exact absurd H (by simp)
       ·rw [if_neg c19] at H
        have c19b0 : (x200001_2 == 168) = false := beq_eq_false_iff_ne.mpr c19
        have c19b1 : (x200001_2 != 168) = true := bne_iff_ne.mpr c19
        obtain ⟨ji30, hji30⟩ : ∃ j_ : Int, (mn (wrap64 (a1 - (x6_2.size : Int))) (wrap64 (168 - x200001_2))) = j_ := ⟨_, rfl⟩
        replace H : (if 0 ≤ x200001_2 then (if x200001_2 ≤ (wrap64 (x200001_2 + (ji30))) then (if (wrap64 (x200001_2 + (ji30))) ≤ (x200000_2.size : Int) then (if x6_2.size + (x200000_2.extract (x200001_2 : Int).toNat ((wrap64 (x200001_2 + (ji30))) : Int).toNat).size ≤ 9223372036854775807 then (impl_StreamTake.l0 k2 a1 (x6_2 ++ (x200000_2.extract (x200001_2 : Int).toNat ((wrap64 (x200001_2 + (ji30))) : Int).toNat)) x200000_2 (wrap64 (x200001_2 + (ji30)))) else (none)) else (none)) else (none)) else (none)) = some (r1, r2, r3) := by first | (rw [hji30] at H; exact H) | (simp only [hji30] at H ⊢; exact H)
        have hji30_ : (if (wrap64 (168 - x200001_2)) < (wrap64 (a1 - (x6_2.size : Int))) then (wrap64 (168 - x200001_2)) else (wrap64 (a1 - (x6_2.size : Int)))) = ji30 := hji30
        by_cases c31 : 0 ≤ x200001_2
        ·rw [if_pos c31] at H
         have c31b0 := eq_true c31
         have c31b1 : decide (0 ≤ x200001_2) = true := decide_eq_true c31
         clear c31
         by_cases c32 : x200001_2 ≤ (wrap64 (x200001_2 + (ji30)))
         ·rw [if_pos c32] at H
          have c32b0 := eq_true c32
          have c32b1 : decide (x200001_2 ≤ (wrap64 (x200001_2 + (ji30)))) = true := decide_eq_true c32
          by_cases c33 : (wrap64 (x200001_2 + (ji30))) ≤ (x200000_2.size : Int)
          ·rw [if_pos c33] at H
           have c33b0 := eq_true c33
           have c33b1 : decide ((wrap64 (x200001_2 + (ji30))) ≤ (x200000_2.size : Int)) = true := decide_eq_true c33
           by_cases c34 : x6_2.size + (x200000_2.extract (x200001_2 : Int).toNat ((wrap64 (x200001_2 + (ji30))) : Int).toNat).size ≤ 9223372036854775807
           ·rw [if_pos c34] at H
            have c34b0 := eq_true c34
            have c34b1 : decide (x6_2.size + (x200000_2.extract (x200001_2 : Int).toNat ((wrap64 (x200001_2 + (ji30))) : Int).toNat).size ≤ 9223372036854775807) = true := decide_eq_true c34
            try have c34b2 : (9223372036854775807 < x6_2.size + (x200000_2.extract (x200001_2 : Int).toNat ((wrap64 (x200001_2 + (ji30))) : Int).toNat).size) = False := eq_false (Nat.not_lt.2 c34)
            have H' := Aside0.mk H
            clear H
            have hnb35 := NB199_200.out
            have hnc35 := NB200_199.out
            have hcz36_0 : wr.cell? ⟨gb199, 0, none⟩ = some (.string x200000_2) := (blk_cell BK199.out 0).trans rfl
            have hcz36_1 : wr.cell? ⟨gb199, 1, none⟩ = some (.int .i64 x200001_2) := (blk_cell BK199.out 1).trans rfl
            have hfz36_0 := blk_frozen BK199.out 0
            have hfz36_1 := blk_frozen BK199.out 1
            go_wp2
            go_roundg k2
            case measure => have := HJ2.out; have := HK2.out; omega
            case rel => exact ⟨(x6_2 ++ (x200000_2.extract (x200001_2 : Int).toNat ((wrap64 (x200001_2 + (ji30))) : Int).toNat)), (x200000_2), (wrap64 (x200001_2 + (ji30))), (by first | rfl | (simp; done) | (simp only [← hji30] <;> (first | rfl | simp)) | (simp [*]; done)), H', ⟨by have := HJ2.out; have := HK2.out; omega⟩, ⟨by (with_reducible repeat (first | refine blk_drewN ?_ _ | refine blk_drew ?_ | refine blk_alloc ?_ _)); refine blk_put (cs := #[.string x200000_2, .int .i64 x200001_2]) ?_ 1 _ rfl; (with_reducible repeat (first | refine blk_drewN ?_ _ | refine blk_drew ?_ | refine blk_alloc ?_ _)); exact BK199.out⟩, ⟨by (with_reducible repeat (first | refine blk_drewN ?_ _ | refine blk_drew ?_ | refine blk_alloc ?_ _)); refine blk_far ?_ NB200_199.out _; (with_reducible repeat (first | refine blk_drewN ?_ _ | refine blk_drew ?_ | refine blk_alloc ?_ _)); exact BK200.out⟩, ⟨by repeat (first | (with_reducible first | exact HB.out | apply below_alloc | apply pw_below_drewN | apply below_drew1 | refine below_set ?_ GE199.out | refine below_set ?_ GE200.out) | exact HB.out)⟩⟩
           ·rw [if_neg c34] at H
            exact absurd H (by simp)
          ·rw [if_neg c33] at H
           exact absurd H (by simp)
         ·rw [if_neg c32] at H
          exact absurd H (by simp)
        ·rw [if_neg c31] at H
         exact absurd H (by simp)
      ·rw [if_neg c18] at H
       have c18b0 : decide ((x6_2.size : Int) < a1) = false := decide_eq_false c18
       clear c18
       simp only [Option.some.injEq, Prod.mk.injEq] at H
       obtain ⟨rfl, rfl, rfl⟩ := H
       have hnb37 := NB199_200.out
       have hnc37 := NB200_199.out
       have hcz38_0 : wr.cell? ⟨gb199, 0, none⟩ = some (.string x200000_2) := (blk_cell BK199.out 0).trans rfl
       have hcz38_1 : wr.cell? ⟨gb199, 1, none⟩ = some (.int .i64 x200001_2) := (blk_cell BK199.out 1).trans rfl
       have hfz38_0 := blk_frozen BK199.out 0
       have hfz38_1 := blk_frozen BK199.out 1
       have hcz39_0 : wr.cell? ⟨gb200, 0, none⟩ = some (.string (⟨#[]⟩ : ByteArray)) := (blk_cell BK200.out 0).trans rfl
       have hcz39_1 : wr.cell? ⟨gb200, 1, none⟩ = some (.int .i64 0) := (blk_cell BK200.out 1).trans rfl
       have hfz39_0 := blk_frozen BK200.out 0
       have hfz39_1 := blk_frozen BK200.out 1
       go_wp2
       refine bodyPost_ret (results_ct rfl _ _ gb200 53 #[.string x200000_2, .int .i64 x200001_2] (0, 0) _ rfl (by (with_reducible repeat (first | refine blk_drewN ?_ _ | refine blk_drew ?_ | refine blk_alloc ?_ _)); refine blk_put (cs := #[.string x200000_2, .int .i64 0]) ?_ 1 _ rfl; (with_reducible repeat (first | refine blk_drewN ?_ _ | refine blk_drew ?_ | refine blk_alloc ?_ _)); refine blk_put (cs := #[.string (⟨#[]⟩ : ByteArray), .int .i64 0]) ?_ 0 _ rfl; exact rK_ BK200.out) Try.underlying53 rfl (by kernel_rfl)) rfl ?_
       exact ⟨by first | rfl | (simp [errW_none, errW_some] <;> rfl) | (simp [*, errW_none, errW_some] <;> rfl), by repeat (first | (with_reducible first | exact HB.out | apply below_alloc | apply pw_below_drewN | apply below_drew1 | refine below_set ?_ GE199.out | refine below_set ?_ GE200.out) | exact HB.out)⟩

end Go.Proofs.Ytnckhligcdieaaa.P
