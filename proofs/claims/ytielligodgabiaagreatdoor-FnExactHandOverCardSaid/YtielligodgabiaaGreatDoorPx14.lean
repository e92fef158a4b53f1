-- printed texts of this session, regrouped
import Derived.Test.YtielligodgabiaaGreatDoorMWC
import Derived.Test.YtielligodgabiaaGreatDoorMWA
import Derived.Test.YtielligodgabiaaGreatDoorMW7
import Derived.Test.YtielligodgabiaaGreatDoorMW6
import Derived.Test.YtielligodgabiaaGreatDoorPx0
import Derived.Test.YtielligodgabiaaGreatDoorPx10
import Derived.Test.YtielligodgabiaaGreatDoorPx13
namespace Go.Proofs.YtielligodgabiaaGreatDoor.P
open Go.RowKit YtielligodgabiaaGreatDoorW.PrintWords YtielligodgabiaaGreatDoorW.PrintLast YtielligodgabiaaGreatDoorW.PrintMore
attribute [local go_sem] dJ dC ej eh dh di dB dK   -- for this text's walks alone
set_option linter.unusedVariables false
set_option linter.unusedSimpArgs false

/-! ### bq: function 3 -/
def bq.f (k : Nat) (a0 : ByteArray) (a1 : ByteArray) : Option (Bool) := if (a0.size : Int) > 1048576 then (some true) else (if (a1.size : Int) > 1048576 then (some true) else ((cx.f k a0 a1).bind fun bt810 => ((cz.f k a0 a1).bind fun bt813 => (if bt813.1.toList = bt810.1.toList then (if bt813.2.1.toList = bt810.2.1.toList then (if (bt813.2.2 != bt810.2.2) = true then (none) else (some true)) else (none)) else (none)))))
theorem bq.mono : ∀ a0 a1 k, LeO (bq.f k a0 a1) (bq.f (k + 1) a0 a1) := by
 intro a0 a1 k
 unfold bq.f
 exact o2_ cz.mono cx.mono
set_option maxHeartbeats 8000000 in
set_option maxRecDepth 100000 in
theorem bq.calls (k : Nat) (a0 : ByteArray) (a1 : ByteArray) (r : Bool) (w : World) (h : bq.f k a0 a1 = some r) (hLD : Laid w) :
  Calls Tryz.prog 3 #[.string a0, .string a1] w fun e w' => e = .returned (.bool r) ∧ Below w.heap.size w w' := by
 have HLD := aa.mk hLD
 clear hLD
 have HB := aa.mk (xa w.heap.size w)
 delta bq.f at h
 have H := h
 clear h
 by_cases c3 : (a0.size : Int) > 1048576
 ·rw [za c3] at H
  have p0 := ta c3
  have q0 : decide (1048576 < a0.size) = true := ta (by omega)
  clear c3
  obtain rfl := sI H
  go_enter Tryz.func3, Tryz.ntmps3
  go_wp2
  go_ret
  exact ⟨f1_, hB_⟩
 rw [Aa c3] at H
 have p0 := ua c3
 have q0 : decide (1048576 < a0.size) = false := ua (by omega)
 clear c3
 by_cases c4 : (a1.size : Int) > 1048576
 ·rw [za c4] at H
  have r0 := ta c4
  have t0 : decide (1048576 < a1.size) = true := ta (by omega)
  clear c4
  obtain rfl := sI H
  go_enter Tryz.func3, Tryz.ntmps3
  go_wp2
  go_ret
  exact ⟨f1_, hB_⟩
 rw [Aa c4] at H
 have r0 := ua c4
 have t0 : decide (1048576 < a1.size) = false := ua (by omega)
 clear c4
 obtain ⟨⟨e0, f0, b0⟩, A5, H⟩ := bN_ H
 obtain ⟨⟨j0, k0, d0⟩, A6, H⟩ := bN_ H
 obtain ⟨c7, H⟩ := iN_ H
 have u0 : (j0.toList == e0.toList) = true := beq_iff_eq.mpr c7
 have v0 : (j0.toList != e0.toList) = false := bne_eq_false_iff_eq.mpr c7
 clear c7
 obtain ⟨c8, H⟩ := iN_ H
 have x0 : (k0.toList == f0.toList) = true := beq_iff_eq.mpr c8
 have y0 : (k0.toList != f0.toList) = false := bne_eq_false_iff_eq.mpr c8
 clear c8
 by_cases c9 : (d0 != b0) = true
 ·rw [za c9] at H
  exact absurd H (by simp)
 rw [Aa c9] at H
 have B0 : (d0 != b0) = false := by simpa using c9
 (try (have C0 : decide (d0 = b0) = true := by simpa using c9))
 (try (have D0 : (d0 == b0) = true := by simpa using c9))
 clear c9
 obtain rfl := sI H
 go_enter Tryz.func3, Tryz.ntmps3
 go_wp2_with (first | ((with_reducible refine ae (f := 4) rfl ?_); refine aq (some 20) rfl rfl Tryz.func4 (by kernel_rfl) rfl #[.string a0, .string a1] rfl aM_ ?_; (with_reducible refine (cx.calls k a0 a1 e0 f0 b0 _ A5.out).mono ?_); rintro e E0 ⟨rfl, hb⟩; refine ⟨_, rfl, ?_⟩; replace HB := aa.mk (ac (hB_) hb); (try clear hb)) | ((with_reducible refine ae (f := 5) rfl ?_); refine aq (some 27) rfl rfl Tryz.func5 (by kernel_rfl) rfl #[.string a0, .string a1] rfl aM_ ?_; (with_reducible refine (cz.calls k a0 a1 j0 k0 d0 _ A6.out (HLD.out.below HLD.out.pos (hB_))).mono ?_); rintro e F0 ⟨rfl, hb⟩; refine ⟨_, rfl, ?_⟩; replace HB := aa.mk (ac (hB_) hb); (try clear hb)))
 go_ret
 exact ⟨f1_, hB_⟩

/-- THE ONE PURE STATEMENT of bq: yours. -/
def bq.Pure : Prop := ∀ (a0 : ByteArray) (a1 : ByteArray), a0.size ≤ 140737488351232 → a1.size ≤ 140737488351232 → ∃ k, bq.f k a0 a1 = some true
theorem bq.walk (P : bq.Pure) (a0 : ByteArray) (a1 : ByteArray) (w : World) (w0 : a0.size ≤ 140737488351232) (w1 : a1.size ≤ 140737488351232) (hLD : Laid w) :
  Calls Tryz.prog 3 #[.string a0, .string a1] w fun e w' => e = .returned (.bool true) ∧ Below w.heap.size w w' := by
 have HLD := aa.mk hLD
 clear hLD
 obtain ⟨k, h⟩ := P a0 a1 w0 w1
 refine (bq.calls k a0 a1 true w h HLD.out).mono ?_
 rintro e w' ⟨rfl, hd⟩
 exact ⟨rfl, hd⟩

end Go.Proofs.YtielligodgabiaaGreatDoor.P
