-- printed texts of this session, regrouped
import Derived.Test.YtooanbpkknlmjaaGreatDoorPx10
import Derived.Test.YtooanbpkknlmjaaGreatDoorPx13
namespace Go.Proofs.YtooanbpkknlmjaaGreatDoor.P
open Go.RowKit YtooanbpkknlmjaaGreatDoorW.PrintWords YtooanbpkknlmjaaGreatDoorW.PrintLast YtooanbpkknlmjaaGreatDoorW.PrintMore
attribute [local go_sem] dZ d4 eE ev dx dy dV dX
set_option linter.unusedVariables false
set_option linter.unusedSimpArgs false
def bz.f (k : Nat) (a0 : ByteArray) (a1 : ByteArray) : Option (Bool) := if (a0.size : Int) > 1048576 then (some true) else (if (a1.size : Int) > 1048576 then (some true) else ((ck.f k a0 a1).bind fun bt939 => ((cm.f k a0 a1).bind fun bt941 => (if bt941.1.toList = bt939.1.toList then (if (bt941.2 != bt939.2) = true then (none) else (some true)) else (none)))))
theorem bz.mono : ∀ a0 a1 k, LeO (bz.f k a0 a1) (bz.f (k + 1) a0 a1) := by
 intro a0 a1 k
 unfold bz.f
 exact o2_ cm.mono ck.mono
set_option maxHeartbeats 8000000 in
set_option maxRecDepth 100000 in
theorem bz.calls (k : Nat) (a0 : ByteArray) (a1 : ByteArray) (r : Bool) (w : World) (h : bz.f k a0 a1 = some r) (hLD : Laid w) :
  Calls Tryz.prog 3 #[.string a0, .string a1] w fun e w' => e = .returned (.bool r) ∧ Below w.heap.size w w' := by
 have HLD := c_ hLD
 clear hLD
 have HB := c_ (Ba w.heap.size w)
 delta bz.f at h
 have H := h
 clear h
 by_cases c3 : (a0.size : Int) > 1048576
 ·rw [Da c3] at H
  have j0 := wa c3
  have k0 : decide (1048576 < a0.size) = true := wa (by omega)
  clear c3
  obtain rfl := za H
  go_enter Tryz.func3, Tryz.ntmps3
  go_wp2
  go_ret
  exact ⟨f1_, hB_⟩
 rw [Ea c3] at H
 have j0 := xa c3
 have k0 : decide (1048576 < a0.size) = false := xa (by omega)
 clear c3
 by_cases c4 : (a1.size : Int) > 1048576
 ·rw [Da c4] at H
  have n0 := wa c4
  have p0 : decide (1048576 < a1.size) = true := wa (by omega)
  clear c4
  obtain rfl := za H
  go_enter Tryz.func3, Tryz.ntmps3
  go_wp2
  go_ret
  exact ⟨f1_, hB_⟩
 rw [Ea c4] at H
 have n0 := xa c4
 have p0 : decide (1048576 < a1.size) = false := xa (by omega)
 clear c4
 obtain ⟨⟨e0, b0⟩, A5, H⟩ := bN_ H
 obtain ⟨⟨f0, d0⟩, A6, H⟩ := bN_ H
 obtain ⟨c7, H⟩ := iN_ H
 have q0 : (f0.toList == e0.toList) = true := beq_iff_eq.mpr c7
 have r0 : (f0.toList != e0.toList) = false := bne_eq_false_iff_eq.mpr c7
 clear c7
 by_cases c8 : (d0 != b0) = true
 ·rw [Da c8] at H
  exact absurd H (by simp)
 rw [Ea c8] at H
 have t0 : (d0 != b0) = false := by simpa using c8
 (try (have u0 : decide (d0 = b0) = true := by simpa using c8))
 (try (have v0 : (d0 == b0) = true := by simpa using c8))
 clear c8
 obtain rfl := za H
 go_enter Tryz.func3, Tryz.ntmps3
 go_wp2_with (first | (refine gq_ 4 (some 18) Tryz.func4 #[.string a0, .string a1] (ck.calls k a0 a1 e0 b0 _ A5.o) ?_; rintro e w9 ⟨rfl, hb⟩; refine ⟨_, rfl, ?_⟩; replace HB := c_ (ab (hB_) hb); (try clear hb)) | (refine gq_ 5 (some 24) Tryz.func5 #[.string a0, .string a1] (cm.calls k a0 a1 f0 d0 _ A6.o (HLD.o.below HLD.o.pos (hB_))) ?_; rintro e x0 ⟨rfl, hb⟩; refine ⟨_, rfl, ?_⟩; replace HB := c_ (ab (hB_) hb); (try clear hb)))
 go_ret
 exact ⟨f1_, hB_⟩
/-- THE ONE PURE STATEMENT of bz: yours. -/
def bz.Pure : Prop := ∀ (a0 : ByteArray) (a1 : ByteArray), a0.size ≤ 140737488351232 → a1.size ≤ 140737488351232 → ∃ k, bz.f k a0 a1 = some true
theorem bz.walk (P : bz.Pure) (a0 : ByteArray) (a1 : ByteArray) (w : World) (w0 : a0.size ≤ 140737488351232) (w1 : a1.size ≤ 140737488351232) (hLD : Laid w) :
  Calls Tryz.prog 3 #[.string a0, .string a1] w fun e w' => e = .returned (.bool true) ∧ Below w.heap.size w w' := by
 have HLD := c_ hLD
 clear hLD
 obtain ⟨k, h⟩ := P a0 a1 w0 w1
 refine (bz.calls k a0 a1 true w h HLD.o).mono ?_
 rintro e w' ⟨rfl, hd⟩
 exact ⟨rfl, hd⟩
end Go.Proofs.YtooanbpkknlmjaaGreatDoor.P
