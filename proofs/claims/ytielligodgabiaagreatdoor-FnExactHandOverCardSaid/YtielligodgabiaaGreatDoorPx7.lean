-- printed texts of this session, regrouped
import Derived.Test.YtielligodgabiaaGreatDoorMWC
import Derived.Test.YtielligodgabiaaGreatDoorMWA
import Derived.Test.YtielligodgabiaaGreatDoorMW7
import Derived.Test.YtielligodgabiaaGreatDoorMW6
import Derived.Test.YtielligodgabiaaGreatDoorHA5
import Derived.Test.YtielligodgabiaaGreatDoorPx0
import Derived.Test.YtielligodgabiaaGreatDoorPx1
import Derived.Test.YtielligodgabiaaGreatDoorPx2
namespace Go.Proofs.YtielligodgabiaaGreatDoor.P
open Go.RowKit YtielligodgabiaaGreatDoorW.PrintWords YtielligodgabiaaGreatDoorW.PrintLast YtielligodgabiaaGreatDoorW.PrintMore
attribute [local go_sem] dJ dC ej eh dh di dB dK   -- for this text's walks alone
set_option linter.unusedVariables false
set_option linter.unusedSimpArgs false

/-! ### bW: function 6 -/
def bW.f (k : Nat) (a0 : ByteArray) : Option (ByteArray) := (cu.f k).bind fun bt193 => ((aD.f k bt193.1 bt193.2.1 bt193.2.2 a0).bind fun bt196 => ((cT.f k bt196.1 bt196.2.1 bt196.2.2).bind fun t199 => (some t199)))
theorem bW.mono : ∀ a0 k, LeO (bW.f k a0) (bW.f (k + 1) a0) := by
 intro a0 k
 unfold bW.f
 exact o3_ cT.mono aD.mono cu.mono
set_option maxHeartbeats 8000000 in
set_option maxRecDepth 100000 in
theorem bW.calls (k : Nat) (a0 : ByteArray) (r : ByteArray) (w : World) (h : bW.f k a0 = some r) :
  Calls Tryz.prog 6 #[.string a0] w fun e w' => e = .returned (.string r) ∧ Below w.heap.size w w' := by
 have HB := aa.mk (xa w.heap.size w)
 delta bW.f at h
 have H := h
 clear h
 obtain ⟨⟨b0, d0, e0⟩, A2, H⟩ := bN_ H
 obtain ⟨⟨f0, j0, k0⟩, A3, H⟩ := bN_ H
 obtain ⟨p0, A4, H⟩ := bN_ H
 obtain rfl := sI H
 go_enter Tryz.func6, Tryz.ntmps6
 go_wp2_with (first | ((with_reducible refine ae (f := 12) rfl ?_); refine aq (some 3) rfl rfl Tryz.func12 (by kernel_rfl) rfl #[] rfl aM_ ?_; (with_reducible refine (cu.calls k  b0 d0 e0 _ A2.out).mono ?_); rintro e w5 ⟨rfl, hb⟩; refine ⟨_, rfl, ?_⟩; replace HB := aa.mk (ac (hB_) hb); (try clear hb)) | ((with_reducible refine ae (f := 11) rfl ?_); refine aq (some 5) rfl rfl Tryz.func11 (by kernel_rfl) rfl #[.agg #[.string b0, .string d0, .int .i64 e0], .string a0] rfl aM_ ?_; (with_reducible refine (aD.calls k b0 d0 e0 a0 f0 j0 k0 _ A3.out).mono ?_); rintro e w6 ⟨rfl, hb⟩; refine ⟨_, rfl, ?_⟩; replace HB := aa.mk (ac (hB_) hb); (try clear hb)) | ((with_reducible refine ae (f := 10) rfl ?_); refine aq (some 6) rfl rfl Tryz.func10 (by kernel_rfl) rfl #[.agg #[.string f0, .string j0, .int .i64 k0]] rfl aM_ ?_; (with_reducible refine (cT.calls k f0 j0 k0 p0 _ A4.out).mono ?_); rintro e w7 ⟨rfl, hb⟩; refine ⟨_, rfl, ?_⟩; replace HB := aa.mk (ac (hB_) hb); (try clear hb)))
 go_ret
 exact ⟨f1_, hB_⟩

end Go.Proofs.YtielligodgabiaaGreatDoor.P
