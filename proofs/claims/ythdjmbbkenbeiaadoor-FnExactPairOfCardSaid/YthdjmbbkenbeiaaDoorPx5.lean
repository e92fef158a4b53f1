-- printed texts of this session, regrouped
import Derived.Test.YthdjmbbkenbeiaaDoorMWC
import Derived.Test.YthdjmbbkenbeiaaDoorMWA
import Derived.Test.YthdjmbbkenbeiaaDoorMW7
import Derived.Test.YthdjmbbkenbeiaaDoorMW6
import Derived.Test.YthdjmbbkenbeiaaDoorHA5
import Derived.Test.YthdjmbbkenbeiaaDoorPx0
import Derived.Test.YthdjmbbkenbeiaaDoorPx1
import Derived.Test.YthdjmbbkenbeiaaDoorPx2
namespace Go.Proofs.YthdjmbbkenbeiaaDoor.P
open Go.RowKit Go.Proofs.YthdjmbbkenbeiaaDoorW.PrintWords Go.Proofs.YthdjmbbkenbeiaaDoorW.PrintLast Go.Proofs.YthdjmbbkenbeiaaDoorW.PrintMore
attribute [local go_sem] max2_int min2_int max_two min_two max_three min_three max_four min_four   -- for this text's walks alone
set_option linter.unusedVariables false
set_option linter.unusedSimpArgs false

/-! ### spec_DigestOf: function 7 -/
def spec_DigestOf.f (k : Nat) (a0 : ByteArray) : Option (ByteArray) := (spec_HasherNew.f k).bind fun bt193 => ((spec_HashMore.f k bt193.1 bt193.2.1 bt193.2.2 a0).bind fun bt196 => ((spec_HashEnd.f k bt196.1 bt196.2.1 bt196.2.2).bind fun t199 => (some t199)))
theorem spec_DigestOf.mono : ∀ a0 k, LeO (spec_DigestOf.f k a0) (spec_DigestOf.f (k + 1) a0) := by
 intro a0 k
 unfold spec_DigestOf.f
 exact o3_ spec_HashEnd.mono spec_HashMore.mono spec_HasherNew.mono
set_option maxHeartbeats 8000000 in
set_option maxRecDepth 100000 in
theorem spec_DigestOf.calls (k : Nat) (a0 : ByteArray) (r : ByteArray) (w : World) (h : spec_DigestOf.f k a0 = some r) :
  Calls Tryd.prog 7 #[.string a0] w fun e w' => e = .returned (.string r) ∧ Below w.heap.size w w' := by
 have HB := Aside0.mk (Below.refl w.heap.size w)
 delta spec_DigestOf.f at h
 have H := h
 clear h
 obtain ⟨⟨t193, t194, t195⟩, A2, H⟩ := bN_ H
 obtain ⟨⟨t196, t197, t198⟩, A3, H⟩ := bN_ H
 obtain ⟨t199, A4, H⟩ := bN_ H
 obtain rfl := Option.some.inj H
 go_enter Tryd.func7, Tryd.ntmps7
 go_wp2_with (first | ((with_reducible refine gate_callee (f := 23) rfl ?_); refine goesL_ (some 3) rfl rfl Tryd.func23 (by kernel_rfl) rfl #[] rfl aM_ ?_; (with_reducible refine (spec_HasherNew.calls k  t193 t194 t195 _ A2.out).mono ?_); rintro e w5 ⟨rfl, hb⟩; refine ⟨_, rfl, ?_⟩; replace HB := Aside0.mk (below_step (hB_) hb); (try clear hb)) | ((with_reducible refine gate_callee (f := 22) rfl ?_); refine goesL_ (some 5) rfl rfl Tryd.func22 (by kernel_rfl) rfl #[.agg #[.string t193, .string t194, .int .i64 t195], .string a0] rfl aM_ ?_; (with_reducible refine (spec_HashMore.calls k t193 t194 t195 a0 t196 t197 t198 _ A3.out).mono ?_); rintro e w6 ⟨rfl, hb⟩; refine ⟨_, rfl, ?_⟩; replace HB := Aside0.mk (below_step (hB_) hb); (try clear hb)) | ((with_reducible refine gate_callee (f := 21) rfl ?_); refine goesL_ (some 6) rfl rfl Tryd.func21 (by kernel_rfl) rfl #[.agg #[.string t196, .string t197, .int .i64 t198]] rfl aM_ ?_; (with_reducible refine (spec_HashEnd.calls k t196 t197 t198 t199 _ A4.out).mono ?_); rintro e w7 ⟨rfl, hb⟩; refine ⟨_, rfl, ?_⟩; replace HB := Aside0.mk (below_step (hB_) hb); (try clear hb)))
 go_ret
 exact ⟨f1_, hB_⟩

end Go.Proofs.YthdjmbbkenbeiaaDoor.P
