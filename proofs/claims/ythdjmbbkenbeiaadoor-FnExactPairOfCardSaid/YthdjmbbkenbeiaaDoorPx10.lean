-- printed texts of this session, regrouped
import Derived.Test.YthdjmbbkenbeiaaDoorMWC
import Derived.Test.YthdjmbbkenbeiaaDoorMWA
import Derived.Test.YthdjmbbkenbeiaaDoorMW7
import Derived.Test.YthdjmbbkenbeiaaDoorMW8
import Derived.Test.YthdjmbbkenbeiaaDoorMW6
import Derived.Test.YthdjmbbkenbeiaaDoorHB3
import Derived.Test.YthdjmbbkenbeiaaDoorPx0
import Derived.Test.YthdjmbbkenbeiaaDoorPx3
namespace Go.Proofs.YthdjmbbkenbeiaaDoor.P
open Go.RowKit Go.Proofs.YthdjmbbkenbeiaaDoorW.PrintWords Go.Proofs.YthdjmbbkenbeiaaDoorW.PrintLast Go.Proofs.YthdjmbbkenbeiaaDoorW.PrintMore
attribute [local go_sem] max2_int min2_int max_two min_two max_three min_three max_four min_four   -- for this text's walks alone
set_option linter.unusedVariables false
set_option linter.unusedSimpArgs false

/-! ### impl_StreamTake: function 66 -/
mutual
def impl_StreamTake.j0 : Nat → Int → Bool → ByteArray → Int → Option (ByteArray × Int × ByteArray)
 | 0, _, _, _, _ => none
 | k + 1, x1, x22, x489000, x489001 => if x22 = true then (some (x489000, x489001, (⟨#[]⟩ : ByteArray))) else (impl_StreamTake.l0 k x1 (⟨#[]⟩ : ByteArray) x489000 x489001)
def impl_StreamTake.l0 : Nat → Int → ByteArray → ByteArray → Int → Option (ByteArray × Int × ByteArray)
 | 0, _, _, _, _ => none
 | k + 1, x1, x6, x489000, x489001 => if (x6.size : Int) < x1 then (if x489001 = 168 then ((impl_Permute.f x489000).bind fun t492 => (if 0 ≤ (wrap64 (0 + (mn (wrap64 (x1 - (x6.size : Int))) 168))) then (if (wrap64 (0 + (mn (wrap64 (x1 - (x6.size : Int))) 168))) ≤ (t492.size : Int) then (if x6.size + (t492.extract 0 ((wrap64 (0 + (mn (wrap64 (x1 - (x6.size : Int))) 168))) : Int).toNat).size ≤ 9223372036854775807 then (impl_StreamTake.l0 k x1 (x6 ++ (t492.extract 0 ((wrap64 (0 + (mn (wrap64 (x1 - (x6.size : Int))) 168))) : Int).toNat)) t492 (wrap64 (0 + (mn (wrap64 (x1 - (x6.size : Int))) 168)))) else (none)) else (none)) else (none))) else (if 0 ≤ x489001 then (if x489001 ≤ (wrap64 (x489001 + (mn (wrap64 (x1 - (x6.size : Int))) (wrap64 (168 - x489001))))) then (if (wrap64 (x489001 + (mn (wrap64 (x1 - (x6.size : Int))) (wrap64 (168 - x489001))))) ≤ (x489000.size : Int) then (if x6.size + (x489000.extract (x489001 : Int).toNat ((wrap64 (x489001 + (mn (wrap64 (x1 - (x6.size : Int))) (wrap64 (168 - x489001))))) : Int).toNat).size ≤ 9223372036854775807 then (impl_StreamTake.l0 k x1 (x6 ++ (x489000.extract (x489001 : Int).toNat ((wrap64 (x489001 + (mn (wrap64 (x1 - (x6.size : Int))) (wrap64 (168 - x489001))))) : Int).toNat)) x489000 (wrap64 (x489001 + (mn (wrap64 (x1 - (x6.size : Int))) (wrap64 (168 - x489001)))))) else (none)) else (none)) else (none)) else (none))) else (some (x489000, x489001, x6))
end
def impl_StreamTake.f (k : Nat) (a0_0 : ByteArray) (a0_1 : Int) (a1 : Int) : Option (ByteArray × Int × ByteArray) := (impl_in.f a1 0 4000).bind fun t490 => (if t490 = true then (if (a0_0.size : Int) = 200 then ((impl_in.f a0_1 0 168).bind fun t491 => (impl_StreamTake.j0 k a1 (!t491) a0_0 a0_1)) else (impl_StreamTake.j0 k a1 true a0_0 a0_1)) else (impl_StreamTake.j0 k a1 true a0_0 a0_1))
theorem impl_StreamTake.mono_l : ∀ k, (∀ y0 y1 y2 y3, LeO (impl_StreamTake.j0 k y0 y1 y2 y3) (impl_StreamTake.j0 (k + 1) y0 y1 y2 y3)) ∧ (∀ y0 y1 y2 y3, LeO (impl_StreamTake.l0 k y0 y1 y2 y3) (impl_StreamTake.l0 (k + 1) y0 y1 y2 y3))
 | 0 => ⟨fun _ _ _ _ r h => by simp [impl_StreamTake.j0] at h, fun _ _ _ _ r h => by simp [impl_StreamTake.l0] at h⟩
 | k + 1 => by
  obtain ⟨ih0, ih1⟩ := impl_StreamTake.mono_l k
  refine ⟨?_, ?_⟩ <;> (intros; (first | unfold impl_StreamTake.j0 | unfold impl_StreamTake.l0); exact o2_ ih0 ih1)
theorem impl_StreamTake.mono : ∀ a0 a1 a2 k, LeO (impl_StreamTake.f k a0 a1 a2) (impl_StreamTake.f (k + 1) a0 a1 a2) := by
 intro a0 a1 a2 k
 obtain ⟨ih0, ih1⟩ := impl_StreamTake.mono_l k
 unfold impl_StreamTake.f
 exact o2_ ih0 ih1
set_option maxHeartbeats 8000000 in
set_option maxRecDepth 100000 in
theorem impl_StreamTake.calls (k : Nat) (a0_0 : ByteArray) (a0_1 : Int) (a1 : Int) (r1 : ByteArray) (r2 : Int) (r3 : ByteArray) (w : World) (h : impl_StreamTake.f k a0_0 a0_1 a1 = some (r1, r2, r3)) :
  Calls Tryd.prog 66 #[.agg #[.string a0_0, .int .i64 a0_1], .int .i64 a1] w fun e w' => e = .returned (.tuple #[.agg #[.string r1, .int .i64 r2], .string r3]) ∧ Below w.heap.size w w' := by
 have hu69 := Tryd.underlying69
 have HB := Aside0.mk (Below.refl w.heap.size w)
 delta impl_StreamTake.f at h
 have H := h
 clear h
 have HC3 := Aside0.mk H
 clear H
 go_enter Tryd.func66, Tryd.ntmps66
 go_upto_region 1 with (first | ((with_reducible refine gate_dst (N := 2) rfl ?_); (try (refine gate_guard (by rfl) ?_; dsimp only)); refine box_event ?hg (N := 2) ?hd (cs := #[.string a0_0, .int .i64 a0_1]) (t := 69) ?hr ?_; (case hd => rfl); (case hg => rfl); (case hr => first | (go_simp; done) | (go_simp; rfl)); intro gb488 hg w4 hbox hb; have n_ := b_ (below_step (hB_) hb) <| b_ (hbox) <| b_ (by rw [hg]; exact (below_size (hB_)) : w.heap.size ≤ gb488) <| c_ (by rw [hg]; exact (below_size (hB_)) : w.heap.size ≤ gb488); clear HB; obtain ⟨HB, BK488, GW488, GE488⟩ := n_; clear hb hbox hg) | ((with_reducible refine gate_dst (N := 4) rfl ?_); (try (refine gate_guard (by rfl) ?_; dsimp only)); refine box_event ?hg (N := 4) ?hd (cs := #[.string (⟨#[]⟩ : ByteArray), .int .i64 0]) (t := 69) ?hr ?_; (case hd => rfl); (case hg => rfl); (case hr => first | (go_simp; done) | (go_simp; rfl)); intro gb489 hg w5 hbox hb; have n_ := b_ (blk_below (g := gb488) (o := .cells #[.string a0_0, .int .i64 a0_1] 69 (0, 0)) (rK_ BK488.out) hb) <| b_ (below_step (hS_ GE488.out) hb) <| b_ (hbox) <| b_ (by rw [hg]; exact (below_size (hS_ GE488.out)) : w.heap.size ≤ gb489) <| b_ (by rw [hg]; exact (below_size (hS_ GE488.out)) : w.heap.size ≤ gb489) <| b_ (by rw [hg]; exact Nat.ne_of_lt (blk_lt (g := gb488) (o := .cells #[.string a0_0, .int .i64 a0_1] 69 (0, 0)) (rK_ BK488.out)) : gb488 ≠ gb489) <| c_ (by rw [hg]; exact Nat.ne_of_gt (blk_lt (g := gb488) (o := .cells #[.string a0_0, .int .i64 a0_1] 69 (0, 0)) (rK_ BK488.out)) : gb489 ≠ gb488); clear BK488 HB; obtain ⟨BK488, HB, BK489, GW489, GE489, NB488_489, NB489_488⟩ := n_; clear hb hbox hg))
 (try simp only [Act.put, List.setIfInBounds_toArray, List.set_cons_zero, List.set_cons_succ])
 go_cut [22] (fun v22 wc => ∃ (kq : Nat) (x22_2 : Bool), v22 = .bool x22_2 ∧ Aside0 (impl_StreamTake.j0 kq a1 x22_2 a0_0 a0_1 = some (r1, r2, r3)) ∧ Aside0 (kq ≤ k) ∧ Aside0 (wc.heap[gb488]? = some (.cells #[.string a0_0, .int .i64 a0_1] 69 (0, 0))) ∧ Aside0 (wc.heap[gb489]? = some (.cells #[.string (⟨#[]⟩ : ByteArray), .int .i64 0] 69 (0, 0))) ∧ Aside0 (Below w.heap.size w wc))
 case first =>
  have H := HC3.out
  clear HC3
  obtain ⟨t490, A6, H⟩ := bN_ H
  by_cases c7 : t490 = true
  ·subst c7
   replace H := iT_ H
   by_cases c8 : (a0_0.size : Int) = 200
   ·rw [if_pos c8] at H
    have c8b0 : ((a0_0.size : Int) == 200) = true := beq_iff_eq.mpr c8
    have c8b1 : ((a0_0.size : Int) != 200) = false := bne_eq_false_iff_eq.mpr c8
    clear c8
    (first | rw [c8b0] | (simp only [i64_w, i32_w]; rw [c8b0]) | skip)
    obtain ⟨t491, A9, H⟩ := bN_ H
    have H' := Aside0.mk H
    clear H
    go_wp2_with (first | ((with_reducible refine gate_callee (f := 64) rfl ?_); refine goesL_ (some 9) rfl rfl Tryd.func64 (by kernel_rfl) rfl #[.int .i64 a1, .int .i64 0, .int .i64 4000] rfl aM_ ?_; (with_reducible refine (impl_in.calls a1 0 4000 true _ A6.out).mono ?_); rintro e w' ⟨rfl, ⟨nd, rfl⟩⟩; refine ⟨_, rfl, ?_⟩; have hnb10 := NB488_489.out; have hnc10 := NB489_488.out; have hcz11_0 : w5.cell? ⟨gb488, 0, none⟩ = some (.string a0_0) := (blk_cell BK488.out 0).trans rfl; have hcz11_1 : w5.cell? ⟨gb488, 1, none⟩ = some (.int .i64 a0_1) := (blk_cell BK488.out 1).trans rfl; have hfz11_0 := blk_frozen BK488.out 0; have hfz11_1 := blk_frozen BK488.out 1) | (go_at_call 64; (with_reducible refine (impl_in.calls a0_1 0 168 t491 _ A9.out).mono ?_); rintro e w' ⟨rfl, ⟨nd, rfl⟩⟩))
    go_meet
    case rel => exact ⟨_, (!t491), f0_, H', ⟨by first | omega | exact Nat.le_refl _⟩, ⟨by refine kK_ ?_; exact BK488.out⟩, ⟨by refine kK_ ?_; exact BK489.out⟩, ⟨(u0_ GE488.out GE489.out)⟩⟩
   rw [if_neg c8] at H
   have c8b0 : ((a0_0.size : Int) == 200) = false := beq_eq_false_iff_ne.mpr c8
   have c8b1 : ((a0_0.size : Int) != 200) = true := bne_iff_ne.mpr c8
   (first | rw [c8b0] | (simp only [i64_w, i32_w]; rw [c8b0]) | skip)
   have H' := Aside0.mk H
   clear H
   go_wp2_with (first | ((with_reducible refine gate_callee (f := 64) rfl ?_); refine goesL_ (some 9) rfl rfl Tryd.func64 (by kernel_rfl) rfl #[.int .i64 a1, .int .i64 0, .int .i64 4000] rfl aM_ ?_; (with_reducible refine (impl_in.calls a1 0 4000 true _ A6.out).mono ?_); rintro e w' ⟨rfl, ⟨nd, rfl⟩⟩; refine ⟨_, rfl, ?_⟩; have hnb12 := NB488_489.out; have hnc12 := NB489_488.out; have hcz13_0 : w5.cell? ⟨gb488, 0, none⟩ = some (.string a0_0) := (blk_cell BK488.out 0).trans rfl; have hcz13_1 : w5.cell? ⟨gb488, 1, none⟩ = some (.int .i64 a0_1) := (blk_cell BK488.out 1).trans rfl; have hfz13_0 := blk_frozen BK488.out 0; have hfz13_1 := blk_frozen BK488.out 1))
   go_meet
   case rel => exact ⟨_, (true), f0_, H', ⟨by first | omega | exact Nat.le_refl _⟩, ⟨by refine kK_ ?_; exact BK488.out⟩, ⟨by refine kK_ ?_; exact BK489.out⟩, ⟨(u0_ GE488.out GE489.out)⟩⟩
  ·replace c7 := Bool.eq_false_iff.mpr c7
   subst c7
   replace H := iF_ H
   have H' := Aside0.mk H
   clear H
   go_wp2_with (first | ((with_reducible refine gate_callee (f := 64) rfl ?_); refine goesL_ (some 9) rfl rfl Tryd.func64 (by kernel_rfl) rfl #[.int .i64 a1, .int .i64 0, .int .i64 4000] rfl aM_ ?_; (with_reducible refine (impl_in.calls a1 0 4000 false _ A6.out).mono ?_); rintro e w' ⟨rfl, ⟨nd, rfl⟩⟩; refine ⟨_, rfl, ?_⟩))
   go_meet
   case rel => exact ⟨_, (true), f0_, H', ⟨by first | omega | exact Nat.le_refl _⟩, ⟨by refine kK_ ?_; exact BK488.out⟩, ⟨by refine kK_ ?_; exact BK489.out⟩, ⟨(u0_ GE488.out GE489.out)⟩⟩
 case rest =>
  clear HC3
  obtain ⟨kq, x22_2, rfl, HA, HJ2, BK488, BK489, HB⟩ := hcut
  cases kq with
  | zero => exact absurd HA.out (by simp [impl_StreamTake.j0])
  | succ kj2 =>
   have H := HA.out
   clear HA
   simp only [impl_StreamTake.j0] at H
   by_cases c14 : x22_2 = true
   ·subst c14
    replace H := iT_ H
    simp only [Option.some.injEq, Prod.mk.injEq] at H
    obtain ⟨rfl, rfl, rfl⟩ := H
    have hnb15 := NB488_489.out
    have hnc15 := NB489_488.out
    have hcz16_0 : wc.cell? ⟨gb488, 0, none⟩ = some (.string a0_0) := (blk_cell BK488.out 0).trans rfl
    have hcz16_1 : wc.cell? ⟨gb488, 1, none⟩ = some (.int .i64 a0_1) := (blk_cell BK488.out 1).trans rfl
    have hfz16_0 := blk_frozen BK488.out 0
    have hfz16_1 := blk_frozen BK488.out 1
    have hcz17_0 : wc.cell? ⟨gb489, 0, none⟩ = some (.string (⟨#[]⟩ : ByteArray)) := (blk_cell BK489.out 0).trans rfl
    have hcz17_1 : wc.cell? ⟨gb489, 1, none⟩ = some (.int .i64 0) := (blk_cell BK489.out 1).trans rfl
    have hfz17_0 := blk_frozen BK489.out 0
    have hfz17_1 := blk_frozen BK489.out 1
    go_wp2
    refine bodyPost_ret (results_ct rfl _ _ gb489 69 #[.string a0_0, .int .i64 a0_1] (0, 0) _ rfl (by refine kK_ ?_; refine blk_put (cs := #[.string a0_0, .int .i64 0]) ?_ 1 _ rfl; refine kK_ ?_; refine blk_put (cs := #[.string (⟨#[]⟩ : ByteArray), .int .i64 0]) ?_ 0 _ rfl; exact rK_ BK489.out) Tryd.underlying69 rfl (by kernel_rfl)) rfl ?_
    exact ⟨f1_, (u0_ GE488.out GE489.out)⟩
   ·replace c14 := Bool.eq_false_iff.mpr c14
    subst c14
    replace H := iF_ H
    have H' := Aside0.mk H
    clear H
    go_wp2
    go_loopg [6] kj2 (fun kq v6 w' => ∃ (x6_2 : ByteArray) (x489000_2 : ByteArray) (x489001_2 : Int), v6 = .string x6_2 ∧ Aside0 (impl_StreamTake.l0 kq a1 x6_2 x489000_2 x489001_2 = some (r1, r2, r3)) ∧ Aside0 (kq ≤ kj2) ∧ Aside0 (w'.heap[gb488]? = some (.cells #[.string x489000_2, .int .i64 x489001_2] 69 (0, 0))) ∧ Aside0 (w'.heap[gb489]? = some (.cells #[.string (⟨#[]⟩ : ByteArray), .int .i64 0] 69 (0, 0))) ∧ Aside0 (Below w.heap.size w w'))
    case atStart => exact ⟨((⟨#[]⟩ : ByteArray)), (a0_0), (a0_1), f0_, H', ⟨Nat.le_refl _⟩, ⟨by refine kK_ ?_; exact BK488.out⟩, ⟨by refine kK_ ?_; exact BK489.out⟩, ⟨(u0_ GE488.out GE489.out)⟩⟩
    case round =>
     clear H'
     obtain ⟨x6_2, x489000_2, x489001_2, rfl, HA, HK2, BK488, BK489, HB⟩ := hrel
     cases gk with
     | zero => exact absurd HA.out (by simp [impl_StreamTake.l0])
     | succ k2 =>
      have H := HA.out
      clear HA
      simp only [impl_StreamTake.l0] at H
      by_cases c18 : (x6_2.size : Int) < a1
      rotate_left
      ·rw [if_neg c18] at H
       have c18b0 := decide_eq_false c18
       clear c18
       simp only [Option.some.injEq, Prod.mk.injEq] at H
       obtain ⟨rfl, rfl, rfl⟩ := H
       have hnb37 := NB488_489.out
       have hnc37 := NB489_488.out
       have hcz38_0 : wr.cell? ⟨gb488, 0, none⟩ = some (.string x489000_2) := (blk_cell BK488.out 0).trans rfl
       have hcz38_1 : wr.cell? ⟨gb488, 1, none⟩ = some (.int .i64 x489001_2) := (blk_cell BK488.out 1).trans rfl
       have hfz38_0 := blk_frozen BK488.out 0
       have hfz38_1 := blk_frozen BK488.out 1
       have hcz39_0 : wr.cell? ⟨gb489, 0, none⟩ = some (.string (⟨#[]⟩ : ByteArray)) := (blk_cell BK489.out 0).trans rfl
       have hcz39_1 : wr.cell? ⟨gb489, 1, none⟩ = some (.int .i64 0) := (blk_cell BK489.out 1).trans rfl
       have hfz39_0 := blk_frozen BK489.out 0
       have hfz39_1 := blk_frozen BK489.out 1
       go_wp2
       refine bodyPost_ret (results_ct rfl _ _ gb489 69 #[.string x489000_2, .int .i64 x489001_2] (0, 0) _ rfl (by refine kK_ ?_; refine blk_put (cs := #[.string x489000_2, .int .i64 0]) ?_ 1 _ rfl; refine kK_ ?_; refine blk_put (cs := #[.string (⟨#[]⟩ : ByteArray), .int .i64 0]) ?_ 0 _ rfl; exact rK_ BK489.out) Tryd.underlying69 rfl (by kernel_rfl)) rfl ?_
       exact ⟨f1_, (u0_ GE488.out GE489.out)⟩
      rw [if_pos c18] at H
      have c18b0 := decide_eq_true c18
      clear c18
      by_cases c19 : x489001_2 = 168
      ·rw [if_pos c19] at H
       have c19b0 : (x489001_2 == 168) = true := beq_iff_eq.mpr c19
       have c19b1 : (x489001_2 != 168) = false := bne_eq_false_iff_eq.mpr c19
       clear c19
       obtain ⟨t492, A20, H⟩ := bN_ H
       obtain ⟨ji21, hji21⟩ : ∃ j_ : Int, (mn (wrap64 (a1 - (x6_2.size : Int))) 168) = j_ := ⟨_, rfl⟩
       first | rw [hji21] at H | simp only [hji21] at H
       (try rw [hji21] at A20)
       have hji21_ : (if 168 < (wrap64 (a1 - (x6_2.size : Int))) then 168 else (wrap64 (a1 - (x6_2.size : Int)))) = ji21 := hji21
       obtain ⟨ji22, hji22⟩ : ∃ j_ : Int, (wrap64 (0 + (ji21))) = j_ := ⟨_, rfl⟩
       first | rw [hji22] at H | simp only [hji22] at H
       (try rw [hji22] at A20)
       have hji22w : (IntKind.i64.wrap (0 + (ji21))) = ji22 := (i64_w _).trans hji22
       have hji22z : (wrap64 (ji21)) = ji22 := by rw [← hji22, Int.zero_add]
       have hji22y : IntKind.i64.wrap (ji21) = ji22 := (i64_w _).trans hji22z
       obtain ⟨c23, H⟩ := iN_ H
       have c23b0 := eq_true c23
       have c23b1 := decide_eq_true c23
       clear c23
       obtain ⟨c24, H⟩ := iN_ H
       have c24b0 := eq_true c24
       have c24b1 := decide_eq_true c24
       clear c24
       obtain ⟨c25, H⟩ := iN_ H
       have c25b0 := eq_true c25
       have c25b1 := decide_eq_true c25
       try have c25b2 : (9223372036854775807 < x6_2.size + (t492.extract 0 ((ji22) : Int).toNat).size) = False := eq_false (Nat.not_lt.2 c25)
       have H' := Aside0.mk H
       clear H
       have hnb26 := NB488_489.out
       have hnc26 := NB489_488.out
       have hcz27_0 : wr.cell? ⟨gb488, 0, none⟩ = some (.string x489000_2) := (blk_cell BK488.out 0).trans rfl
       have hcz27_1 : wr.cell? ⟨gb488, 1, none⟩ = some (.int .i64 x489001_2) := (blk_cell BK488.out 1).trans rfl
       have hfz27_0 := blk_frozen BK488.out 0
       have hfz27_1 := blk_frozen BK488.out 1
       go_wp2_with (first | ((with_reducible refine gate_callee (f := 74) rfl ?_); refine goesL_ (some 33) rfl rfl Tryd.func74 (by kernel_rfl) rfl #[.string x489000_2] rfl aM_ ?_; (with_reducible refine (impl_Permute.calls x489000_2 t492 _ A20.out).mono ?_); rintro e w28 ⟨rfl, hb⟩; refine ⟨_, rfl, ?_⟩; have n_ := b_ (blk_below (g := gb488) (o := .cells #[.string x489000_2, .int .i64 x489001_2] 69 (0, 0)) (rK_ BK488.out) hb) <| b_ (blk_below (g := gb489) (o := .cells #[.string (⟨#[]⟩ : ByteArray), .int .i64 0] 69 (0, 0)) (rK_ BK489.out) hb) <| c_ (below_step ((u0_ GE488.out GE489.out)) hb); clear BK488 BK489 HB; obtain ⟨BK488, BK489, HB⟩ := n_; have hcz29_0 : w28.cell? ⟨gb488, 0, none⟩ = some (.string x489000_2) := (blk_cell BK488.out 0).trans rfl; have hcz29_1 : w28.cell? ⟨gb488, 1, none⟩ = some (.int .i64 x489001_2) := (blk_cell BK488.out 1).trans rfl; have hfz29_0 := blk_frozen BK488.out 0; have hfz29_1 := blk_frozen BK488.out 1))
       go_roundg k2
       case measure => have := HJ2.out; have := HK2.out; omega
       case rel => exact ⟨(x6_2 ++ (t492.extract 0 ((ji22) : Int).toNat)), (t492), (ji22), (by first | rfl | (simp; done) | (simp only [← hji22] <;> (first | rfl | simp)) | (simp [*]; done)), H', ⟨by have := HJ2.out; have := HK2.out; omega⟩, ⟨by refine kK_ ?_; refine blk_put (cs := #[.string t492, .int .i64 0]) ?_ 1 _ rfl; refine kK_ ?_; refine blk_put (cs := #[.string t492, .int .i64 x489001_2]) ?_ 1 _ rfl; refine kK_ ?_; refine blk_put (cs := #[.string x489000_2, .int .i64 x489001_2]) ?_ 0 _ rfl; refine kK_ ?_; exact BK488.out⟩, ⟨by refine kK_ ?_; refine blk_far ?_ NB489_488.out _; refine kK_ ?_; refine blk_far ?_ NB489_488.out _; refine kK_ ?_; refine blk_far ?_ NB489_488.out _; refine kK_ ?_; exact BK489.out⟩, ⟨(u0_ GE488.out GE489.out)⟩⟩
      rw [if_neg c19] at H
      have c19b0 : (x489001_2 == 168) = false := beq_eq_false_iff_ne.mpr c19
      have c19b1 : (x489001_2 != 168) = true := bne_iff_ne.mpr c19
      obtain ⟨ji30, hji30⟩ : ∃ j_ : Int, (mn (wrap64 (a1 - (x6_2.size : Int))) (wrap64 (168 - x489001_2))) = j_ := ⟨_, rfl⟩
      first | rw [hji30] at H | simp only [hji30] at H
      have hji30_ : (if (wrap64 (168 - x489001_2)) < (wrap64 (a1 - (x6_2.size : Int))) then (wrap64 (168 - x489001_2)) else (wrap64 (a1 - (x6_2.size : Int)))) = ji30 := hji30
      obtain ⟨c31, H⟩ := iN_ H
      have c31b0 := eq_true c31
      have c31b1 := decide_eq_true c31
      clear c31
      obtain ⟨c32, H⟩ := iN_ H
      have c32b0 := eq_true c32
      have c32b1 := decide_eq_true c32
      obtain ⟨c33, H⟩ := iN_ H
      have c33b0 := eq_true c33
      have c33b1 := decide_eq_true c33
      obtain ⟨c34, H⟩ := iN_ H
      have c34b0 := eq_true c34
      have c34b1 := decide_eq_true c34
      try have c34b2 : (9223372036854775807 < x6_2.size + (x489000_2.extract (x489001_2 : Int).toNat ((wrap64 (x489001_2 + (ji30))) : Int).toNat).size) = False := eq_false (Nat.not_lt.2 c34)
      have H' := Aside0.mk H
      clear H
      have hnb35 := NB488_489.out
      have hnc35 := NB489_488.out
      have hcz36_0 : wr.cell? ⟨gb488, 0, none⟩ = some (.string x489000_2) := (blk_cell BK488.out 0).trans rfl
      have hcz36_1 : wr.cell? ⟨gb488, 1, none⟩ = some (.int .i64 x489001_2) := (blk_cell BK488.out 1).trans rfl
      have hfz36_0 := blk_frozen BK488.out 0
      have hfz36_1 := blk_frozen BK488.out 1
      go_wp2
      go_roundg k2
      case measure => have := HJ2.out; have := HK2.out; omega
      case rel => exact ⟨(x6_2 ++ (x489000_2.extract (x489001_2 : Int).toNat ((wrap64 (x489001_2 + (ji30))) : Int).toNat)), (x489000_2), (wrap64 (x489001_2 + (ji30))), (by first | rfl | (simp; done) | (simp only [← hji30] <;> (first | rfl | simp)) | (simp [*]; done)), H', ⟨by have := HJ2.out; have := HK2.out; omega⟩, ⟨by refine kK_ ?_; refine blk_put (cs := #[.string x489000_2, .int .i64 x489001_2]) ?_ 1 _ rfl; refine kK_ ?_; exact BK488.out⟩, ⟨by refine kK_ ?_; refine blk_far ?_ NB489_488.out _; refine kK_ ?_; exact BK489.out⟩, ⟨(u0_ GE488.out GE489.out)⟩⟩

end Go.Proofs.YthdjmbbkenbeiaaDoor.P
