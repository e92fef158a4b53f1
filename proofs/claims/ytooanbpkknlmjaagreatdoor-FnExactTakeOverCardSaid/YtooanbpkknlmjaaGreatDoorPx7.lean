-- printed texts of this session, regrouped
import Derived.Test.YtooanbpkknlmjaaGreatDoorHA5
namespace Go.Proofs.YtooanbpkknlmjaaGreatDoor.P
open Go.RowKit YtooanbpkknlmjaaGreatDoorW.PrintWords YtooanbpkknlmjaaGreatDoorW.PrintLast YtooanbpkknlmjaaGreatDoorW.PrintMore
attribute [local go_sem] dZ d4 eE ev dx dy dV dX
set_option linter.unusedVariables false
set_option linter.unusedSimpArgs false
def bQ.f (k : Nat) (a0 : ByteArray) : Option (ByteArray) := (cI.f k).bind fun bt402 => ((aG.f k bt402.1 bt402.2.1 bt402.2.2 a0).bind fun bt405 => ((de.f k bt405.1 bt405.2.1 bt405.2.2).bind fun t408 => (some t408)))
theorem bQ.mono : ∀ a0 k, LeO (bQ.f k a0) (bQ.f (k + 1) a0) := by
 intro a0 k
 unfold bQ.f
 exact o3_ de.mono aG.mono cI.mono
set_option maxHeartbeats 8000000 in
set_option maxRecDepth 100000 in
theorem bQ.calls (k : Nat) (a0 : ByteArray) (r : ByteArray) (w : World) (h : bQ.f k a0 = some r) :
  Calls Tryz.prog 8 #[.string a0] w fun e w' => e = .returned (.string r) ∧ Below w.heap.size w w' := by
 have HB := c_ (Ba w.heap.size w)
 delta bQ.f at h
 have H := h
 clear h
 obtain ⟨⟨b0, d0, e0⟩, A2, H⟩ := bN_ H
 obtain ⟨⟨f0, j0, k0⟩, A3, H⟩ := bN_ H
 obtain ⟨n0, A4, H⟩ := bN_ H
 obtain rfl := za H
 go_enter Tryz.func8, Tryz.ntmps8
 go_wp2_with (first | (refine gq_ 17 (some 3) Tryz.func17 #[] (cI.calls k  b0 d0 e0 _ A2.o) ?_; rintro e w5 ⟨rfl, hb⟩; refine ⟨_, rfl, ?_⟩; replace HB := c_ (ab (hB_) hb); (try clear hb)) | (refine gq_ 16 (some 5) Tryz.func16 #[.agg #[.string b0, .string d0, .int .i64 e0], .string a0] (aG.calls k b0 d0 e0 a0 f0 j0 k0 _ A3.o) ?_; rintro e w6 ⟨rfl, hb⟩; refine ⟨_, rfl, ?_⟩; replace HB := c_ (ab (hB_) hb); (try clear hb)) | (refine gq_ 15 (some 6) Tryz.func15 #[.agg #[.string f0, .string j0, .int .i64 k0]] (de.calls k f0 j0 k0 n0 _ A4.o) ?_; rintro e w7 ⟨rfl, hb⟩; refine ⟨_, rfl, ?_⟩; replace HB := c_ (ab (hB_) hb); (try clear hb)))
 go_ret
 exact ⟨f1_, hB_⟩
end Go.Proofs.YtooanbpkknlmjaaGreatDoor.P
