-- printed texts of this session, regrouped
import Derived.Test.YthdjmbbkenbeiaaDoorMWC
import Derived.Test.YthdjmbbkenbeiaaDoorMWA
import Derived.Test.YthdjmbbkenbeiaaDoorMW7
import Derived.Test.YthdjmbbkenbeiaaDoorMW6
import Derived.Test.YthdjmbbkenbeiaaDoorHB5
import Derived.Test.YthdjmbbkenbeiaaDoorPx0
namespace Go.Proofs.YthdjmbbkenbeiaaDoor.P
open Go.RowKit Go.Proofs.YthdjmbbkenbeiaaDoorW.PrintWords Go.Proofs.YthdjmbbkenbeiaaDoorW.PrintLast Go.Proofs.YthdjmbbkenbeiaaDoorW.PrintMore
attribute [local go_sem] max2_int min2_int max_two min_two max_three min_three max_four min_four   -- for this text's walks alone
set_option linter.unusedVariables false
set_option linter.unusedSimpArgs false

/-! ### spec_StreamNew: function 50 -/
def spec_StreamNew.f (k : Nat) (a0 : ByteArray) : Option (ByteArray × Int) := (spec_l07Absorb.f k a0 168 31).bind fun t268 => (some (t268, 0))
theorem spec_StreamNew.mono : ∀ a0 k, LeO (spec_StreamNew.f k a0) (spec_StreamNew.f (k + 1) a0) := by
 intro a0 k
 unfold spec_StreamNew.f
 exact o1_ spec_l07Absorb.mono
set_option maxHeartbeats 8000000 in
set_option maxRecDepth 100000 in
theorem spec_StreamNew.calls (k : Nat) (a0 : ByteArray) (r1 : ByteArray) (r2 : Int) (w : World) (h : spec_StreamNew.f k a0 = some (r1, r2)) :
  Calls Tryd.prog 50 #[.string a0] w fun e w' => e = .returned (.agg #[.string r1, .int .i64 r2]) ∧ Below w.heap.size w w' := by
 have hu69 := Tryd.underlying69
 have HB := Aside0.mk (Below.refl w.heap.size w)
 delta spec_StreamNew.f at h
 have H := h
 clear h
 obtain ⟨t268, A2, H⟩ := bN_ H
 simp only [Option.some.injEq, Prod.mk.injEq] at H
 obtain ⟨rfl, rfl⟩ := H
 go_enter Tryd.func50, Tryd.ntmps50
 go_wp2_with (first | ((with_reducible refine gate_dst (N := 2) rfl ?_); refine box_event ?hg (N := 2) ?hd (cs := #[.string (⟨#[]⟩ : ByteArray), .int .i64 0]) (t := 69) ?hr ?_; (case hd => rfl); (case hg => rfl); (case hr => first | (go_simp; done) | (go_simp; rfl)); intro gb267 hg w3 hbox hb; have n_ := b_ (below_step (hB_) hb) <| b_ (hbox) <| b_ (by rw [hg]; exact (below_size (hB_)) : w.heap.size ≤ gb267) <| c_ (by rw [hg]; exact (below_size (hB_)) : w.heap.size ≤ gb267); clear HB; obtain ⟨HB, BK267, GW267, GE267⟩ := n_; clear hb hbox hg) | ((with_reducible refine gate_callee (f := 69) rfl ?_); refine goesL_ (some 4) rfl rfl Tryd.func69 (by kernel_rfl) rfl #[.string a0, .int .i64 168, .int .u8 31] rfl aM_ ?_; (with_reducible refine (spec_l07Absorb.calls k a0 168 31 t268 _ A2.out).mono ?_); rintro e w4 ⟨rfl, hb⟩; refine ⟨_, rfl, ?_⟩; have n_ := b_ (blk_below (g := gb267) (o := .cells #[.string (⟨#[]⟩ : ByteArray), .int .i64 0] 69 (0, 0)) (rK_ BK267.out) hb) <| c_ (below_step (hS_ GE267.out) hb); clear BK267 HB; obtain ⟨BK267, HB⟩ := n_; have hcz5_0 : w4.cell? ⟨gb267, 0, none⟩ = some (.string (⟨#[]⟩ : ByteArray)) := (blk_cell BK267.out 0).trans rfl; have hcz5_1 : w4.cell? ⟨gb267, 1, none⟩ = some (.int .i64 0) := (blk_cell BK267.out 1).trans rfl; have hfz5_0 := blk_frozen BK267.out 0; have hfz5_1 := blk_frozen BK267.out 1))
 refine bodyPost_ret (results_cell_row rfl _ _ gb267 69 #[.string t268, .int .i64 0] (0, 0) _ rfl (by refine kK_ ?_; refine blk_put (cs := #[.string t268, .int .i64 0]) ?_ 1 _ rfl; refine kK_ ?_; refine blk_put (cs := #[.string (⟨#[]⟩ : ByteArray), .int .i64 0]) ?_ 0 _ rfl; exact rK_ BK267.out) Tryd.underlying69 rfl (by kernel_rfl)) rfl ?_
 exact ⟨f1_, hS_ GE267.out⟩

end Go.Proofs.YthdjmbbkenbeiaaDoor.P
