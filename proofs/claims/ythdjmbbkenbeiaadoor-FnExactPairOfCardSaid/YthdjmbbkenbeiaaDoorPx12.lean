-- printed texts of this session, regrouped
import Derived.Test.YthdjmbbkenbeiaaDoorMWC
import Derived.Test.YthdjmbbkenbeiaaDoorMWA
import Derived.Test.YthdjmbbkenbeiaaDoorMW7
import Derived.Test.YthdjmbbkenbeiaaDoorMW8
import Derived.Test.YthdjmbbkenbeiaaDoorMW6
import Derived.Test.YthdjmbbkenbeiaaDoorPx0
import Derived.Test.YthdjmbbkenbeiaaDoorPx4
import Derived.Test.YthdjmbbkenbeiaaDoorPx8
import Derived.Test.YthdjmbbkenbeiaaDoorPx11
namespace Go.Proofs.YthdjmbbkenbeiaaDoor.P
open Go.RowKit Go.Proofs.YthdjmbbkenbeiaaDoorW.PrintWords Go.Proofs.YthdjmbbkenbeiaaDoorW.PrintLast Go.Proofs.YthdjmbbkenbeiaaDoorW.PrintMore
attribute [local go_sem] max2_int min2_int max_two min_two max_three min_three max_four min_four   -- for this text's walks alone
set_option linter.unusedVariables false
set_option linter.unusedSimpArgs false

/-! ### laws_FnExactPairOf: function 3 -/
def laws_FnExactPairOf.f (k : Nat) (a0 : ByteArray) : Option (Bool) := if (a0.size : Int) > 1048576 then (some true) else ((spec_PairOf.f k a0).bind fun bt626 => ((impl_PairOf.f k a0).bind fun bt630 => ((laws_eqPair.f bt630.1 bt630.2.1 bt626.1 bt626.2.1).bind fun t634 => (if t634 = true then (if (bt630.2.2 != bt626.2.2) = true then (none) else (some true)) else (none)))))
theorem laws_FnExactPairOf.mono : ∀ a0 k, LeO (laws_FnExactPairOf.f k a0) (laws_FnExactPairOf.f (k + 1) a0) := by
 intro a0 k
 unfold laws_FnExactPairOf.f
 exact o2_ impl_PairOf.mono spec_PairOf.mono
set_option maxHeartbeats 8000000 in
set_option maxRecDepth 100000 in
theorem laws_FnExactPairOf.calls (k : Nat) (a0 : ByteArray) (r : Bool) (w : World) (h : laws_FnExactPairOf.f k a0 = some r) (hLD : Laid w) :
  Calls Tryd.prog 3 #[.string a0] w fun e w' => e = .returned (.bool r) ∧ Below w.heap.size w w' := by
 have HLD := Aside0.mk hLD
 clear hLD
 have hu23 := Tryd.underlying23
 have HB := Aside0.mk (Below.refl w.heap.size w)
 delta laws_FnExactPairOf.f at h
 have H := h
 clear h
 by_cases c2 : (a0.size : Int) > 1048576
 ·rw [if_pos c2] at H
  have c2b0 := decide_eq_true c2
  have c2b1 : decide (1048576 < a0.size) = true := decide_eq_true (by omega)
  clear c2
  obtain rfl := Option.some.inj H
  go_enter Tryd.func3, Tryd.ntmps3
  go_wp2
  go_ret
  exact ⟨f1_, hB_⟩
 rw [if_neg c2] at H
 have c2b0 := decide_eq_false c2
 have c2b1 : decide (1048576 < a0.size) = false := decide_eq_false (by omega)
 clear c2
 obtain ⟨⟨t626, t627, t628⟩, A3, H⟩ := bN_ H
 obtain ⟨⟨t630, t631, t632⟩, A4, H⟩ := bN_ H
 obtain ⟨t634, A5, H⟩ := bN_ H
 by_cases c6 : t634 = true
 ·subst c6
  replace H := iT_ H
  by_cases c7 : (t632 != t628) = true
  ·rw [if_pos c7] at H
   exact absurd H (by simp)
  rw [if_neg c7] at H
  have c7b0 : (t632 != t628) = false := by simpa using c7
  (try (have c7b1 : decide (t632 = t628) = true := by simpa using c7))
  (try (have c7b2 : (t632 == t628) = true := by simpa using c7))
  clear c7
  obtain rfl := Option.some.inj H
  go_enter Tryd.func3, Tryd.ntmps3
  go_wp2_with (first | ((with_reducible refine gate_callee (f := 4) rfl ?_); refine goesL_ (some 12) rfl rfl Tryd.func4 (by kernel_rfl) rfl #[.string a0] rfl aM_ ?_; (with_reducible refine (spec_PairOf.calls k a0 t626 t627 t628 _ A3.out).mono ?_); rintro e w8 ⟨rfl, hb⟩; refine ⟨_, rfl, ?_⟩; replace HB := Aside0.mk (below_step (hB_) hb); (try clear hb)) | ((with_reducible refine gate_dst (N := 3) rfl ?_); refine box_event ?hg (N := 3) ?hd (cs := #[.string (⟨#[]⟩ : ByteArray), .string (⟨#[]⟩ : ByteArray)]) (t := 23) ?hr ?_; (case hd => rfl); (case hg => rfl); (case hr => first | (go_simp; done) | (go_simp; rfl)); intro gb629 hg w9 hbox hb; have n_ := b_ (below_step (hB_) hb) <| b_ (hbox) <| b_ (by rw [hg]; exact (below_size (hB_)) : w.heap.size ≤ gb629) <| c_ (by rw [hg]; exact (below_size (hB_)) : w.heap.size ≤ gb629); clear HB; obtain ⟨HB, BK629, GW629, GE629⟩ := n_; clear hb hbox hg; have hcz10_0 : w9.cell? ⟨gb629, 0, none⟩ = some (.string (⟨#[]⟩ : ByteArray)) := (blk_cell BK629.out 0).trans rfl; have hcz10_1 : w9.cell? ⟨gb629, 1, none⟩ = some (.string (⟨#[]⟩ : ByteArray)) := (blk_cell BK629.out 1).trans rfl; have hfz10_0 := blk_frozen BK629.out 0; have hfz10_1 := blk_frozen BK629.out 1) | ((with_reducible refine gate_callee (f := 5) rfl ?_); refine goesL_ (some 17) rfl rfl Tryd.func5 (by kernel_rfl) rfl #[.string a0] rfl aM_ ?_; (with_reducible refine (impl_PairOf.calls k a0 t630 t631 t632 _ A4.out (HLD.out.below HLD.out.pos ((u1_ GE629.out)))).mono ?_); rintro e w11 ⟨rfl, hb⟩; refine ⟨_, rfl, ?_⟩; have n_ := b_ (blk_below (g := gb629) (o := .cells #[.string t626, .string t627] 23 (0, 0)) (by refine kK_ ?_; refine blk_put (cs := #[.string t626, .string (⟨#[]⟩ : ByteArray)]) ?_ 1 _ rfl; refine kK_ ?_; refine blk_put (cs := #[.string (⟨#[]⟩ : ByteArray), .string (⟨#[]⟩ : ByteArray)]) ?_ 0 _ rfl; exact rK_ BK629.out) hb) <| c_ (below_step (hS_ GE629.out) hb); clear BK629 HB; obtain ⟨BK629, HB⟩ := n_; (try clear hb)) | ((with_reducible refine gate_dst (N := 5) rfl ?_); refine box_event ?hg (N := 5) ?hd (cs := #[.string (⟨#[]⟩ : ByteArray), .string (⟨#[]⟩ : ByteArray)]) (t := 23) ?hr ?_; (case hd => rfl); (case hg => rfl); (case hr => first | (go_simp; done) | (go_simp; rfl)); intro gb633 hg w12 hbox hb; have n_ := b_ (blk_below (g := gb629) (o := .cells #[.string t626, .string t627] 23 (0, 0)) (rK_ BK629.out) hb) <| b_ (below_step (hS_ GE629.out) hb) <| b_ (hbox) <| b_ (by rw [hg]; exact (below_size (hS_ GE629.out)) : w.heap.size ≤ gb633) <| b_ (by rw [hg]; exact (below_size (hS_ GE629.out)) : w.heap.size ≤ gb633) <| b_ (by rw [hg]; exact Nat.ne_of_lt (blk_lt (g := gb629) (o := .cells #[.string t626, .string t627] 23 (0, 0)) (rK_ BK629.out)) : gb629 ≠ gb633) <| c_ (by rw [hg]; exact Nat.ne_of_gt (blk_lt (g := gb629) (o := .cells #[.string t626, .string t627] 23 (0, 0)) (rK_ BK629.out)) : gb633 ≠ gb629); clear BK629 HB; obtain ⟨BK629, HB, BK633, GW633, GE633, NB629_633, NB633_629⟩ := n_; clear hb hbox hg; have hnb13 := NB633_629.out; have hnc13 := NB629_633.out; have hcz14_0 : w12.cell? ⟨gb633, 0, none⟩ = some (.string (⟨#[]⟩ : ByteArray)) := (blk_cell BK633.out 0).trans rfl; have hcz14_1 : w12.cell? ⟨gb633, 1, none⟩ = some (.string (⟨#[]⟩ : ByteArray)) := (blk_cell BK633.out 1).trans rfl; have hfz14_0 := blk_frozen BK633.out 0; have hfz14_1 := blk_frozen BK633.out 1; have hcz15_0 : w12.cell? ⟨gb629, 0, none⟩ = some (.string t626) := (blk_cell BK629.out 0).trans rfl; have hcz15_1 : w12.cell? ⟨gb629, 1, none⟩ = some (.string t627) := (blk_cell BK629.out 1).trans rfl; have hfz15_0 := blk_frozen BK629.out 0; have hfz15_1 := blk_frozen BK629.out 1) | ((with_reducible refine gate_callee (f := 6) rfl ?_); refine goesL_ (some 22) rfl rfl Tryd.func6 (by kernel_rfl) rfl #[.agg #[.string t630, .string t631], .agg #[.string t626, .string t627]] rfl aM_ ?_; (with_reducible refine (laws_eqPair.calls t630 t631 t626 t627 true _ A5.out).mono ?_); rintro e w16 ⟨rfl, hb⟩; refine ⟨_, rfl, ?_⟩; have n_ := b_ (blk_below (g := gb629) (o := .cells #[.string t626, .string t627] 23 (0, 0)) (by refine kK_ ?_; refine blk_far ?_ NB629_633.out _; refine kK_ ?_; refine blk_far ?_ NB629_633.out _; exact rK_ BK629.out) hb) <| b_ (blk_below (g := gb633) (o := .cells #[.string t630, .string t631] 23 (0, 0)) (by refine kK_ ?_; refine blk_put (cs := #[.string t630, .string (⟨#[]⟩ : ByteArray)]) ?_ 1 _ rfl; refine kK_ ?_; refine blk_put (cs := #[.string (⟨#[]⟩ : ByteArray), .string (⟨#[]⟩ : ByteArray)]) ?_ 0 _ rfl; exact rK_ BK633.out) hb) <| c_ (below_step ((u0_ GE629.out GE633.out)) hb); clear BK629 BK633 HB; obtain ⟨BK629, BK633, HB⟩ := n_; (try clear hb)))
  go_ret
  exact ⟨f1_, (u0_ GE629.out GE633.out)⟩
 ·replace c6 := Bool.eq_false_iff.mpr c6
  subst c6
  replace H := iF_ H
  exact absurd H (by simp)

/-- THE ONE PURE STATEMENT of laws_FnExactPairOf: yours. -/
def laws_FnExactPairOf.Pure : Prop := ∀ (a0 : ByteArray), a0.size ≤ 140737488351232 → ∃ k, laws_FnExactPairOf.f k a0 = some true
theorem laws_FnExactPairOf.walk (P : laws_FnExactPairOf.Pure) (a0 : ByteArray) (w : World) (w0 : a0.size ≤ 140737488351232) (hLD : Laid w) :
  Calls Tryd.prog 3 #[.string a0] w fun e w' => e = .returned (.bool true) ∧ Below w.heap.size w w' := by
 have HLD := Aside0.mk hLD
 clear hLD
 obtain ⟨k, h⟩ := P a0 w0
 refine (laws_FnExactPairOf.calls k a0 true w h HLD.out).mono ?_
 rintro e w' ⟨rfl, hd⟩
 exact ⟨rfl, hd⟩

end Go.Proofs.YthdjmbbkenbeiaaDoor.P
