-- printed texts of this session, regrouped
import Derived.Test.YtielligodgabiaaGreatDoorMWC
import Derived.Test.YtielligodgabiaaGreatDoorMWA
import Derived.Test.YtielligodgabiaaGreatDoorMW7
import Derived.Test.YtielligodgabiaaGreatDoorMW6
import Derived.Test.YtielligodgabiaaGreatDoorHA4
import Derived.Test.YtielligodgabiaaGreatDoorPx0
import Derived.Test.YtielligodgabiaaGreatDoorPx11
namespace Go.Proofs.YtielligodgabiaaGreatDoor.P
open Go.RowKit YtielligodgabiaaGreatDoorW.PrintWords YtielligodgabiaaGreatDoorW.PrintLast YtielligodgabiaaGreatDoorW.PrintMore
attribute [local go_sem] dJ dC ej eh dh di dB dK   -- for this text's walks alone
set_option linter.unusedVariables false
set_option linter.unusedSimpArgs false

/-! ### cz: function 5 -/
def cz.f (k : Nat) (a0 : ByteArray) (a1 : ByteArray) : Option (ByteArray × ByteArray × Bool) := (cD.f a0).bind fun t805 => (if a1.size + t805.size ≤ 9223372036854775807 then (if (a1 ++ t805).size + 1 ≤ 9223372036854775807 then ((cD.f ((a1 ++ t805) ++ (⟨#[99]⟩ : ByteArray))).bind fun t806 => ((aA.f k a0 a1 t806).bind fun bt807 => (if bt807.2 = true then ((cD.f ((a1 ++ t805) ++ (⟨#[107]⟩ : ByteArray))).bind fun t809 => (some (bt807.1, t809, true))) else (some ((⟨#[]⟩ : ByteArray), (⟨#[]⟩ : ByteArray), false))))) else (none)) else (none))
theorem cz.mono : ∀ a0 a1 k, LeO (cz.f k a0 a1) (cz.f (k + 1) a0 a1) := by
 intro a0 a1 k
 unfold cz.f
 exact o1_ aA.mono
set_option maxHeartbeats 8000000 in
set_option maxRecDepth 100000 in
theorem cz.calls (k : Nat) (a0 : ByteArray) (a1 : ByteArray) (r1 : ByteArray) (r2 : ByteArray) (r3 : Bool) (w : World) (h : cz.f k a0 a1 = some (r1, r2, r3)) (hLD : Laid w) :
  Calls Tryz.prog 5 #[.string a0, .string a1] w fun e w' => e = .returned (.tuple #[.string r1, .string r2, .bool r3]) ∧ Below w.heap.size w w' := by
 have HLD := aa.mk hLD
 clear hLD
 have HB := aa.mk (xa w.heap.size w)
 delta cz.f at h
 have H := h
 clear h
 obtain ⟨b0, A3, H⟩ := bN_ H
 obtain ⟨c4, H⟩ := iN_ H
 have q0 := va c4
 have r0 := ta c4
 try have t0 : (9223372036854775807 < a1.size + b0.size) = False := eq_false (Nat.not_lt.2 c4)
 obtain ⟨c5, H⟩ := iN_ H
 have u0 := va c5
 have v0 := ta c5
 try have f0 : (9223372036854775807 < (a1 ++ b0).size + 1) = False := eq_false (Nat.not_lt.2 c5)
 try (have j0 : (9223372036854775807 < (a1 ++ b0).size + 1) = False := f0; simp only [ByteArray.size_append] at j0)
 obtain ⟨d0, A6, H⟩ := bN_ H
 obtain ⟨⟨e0, k0⟩, A7, H⟩ := bN_ H
 by_cases c8 : k0 = true
 ·subst c8
  replace H := iT_ H
  obtain ⟨p0, A9, H⟩ := bN_ H
  simp only [Option.some.injEq, Prod.mk.injEq] at H
  obtain ⟨rfl, rfl, rfl⟩ := H
  go_enter Tryz.func5, Tryz.ntmps5
  go_wp2_with (first | ((with_reducible refine ae (f := 8) rfl ?_); refine aq (some 12) rfl rfl Tryz.func8 (by kernel_rfl) rfl #[.string a0] rfl aM_ ?_; (with_reducible refine (cD.calls a0 b0 _ A3.out (HLD.out.below HLD.out.pos (hB_))).mono ?_); rintro e x0 ⟨rfl, hb⟩; refine ⟨_, rfl, ?_⟩; replace HB := aa.mk (ac (hB_) hb); (try clear hb)) | ((with_reducible refine ae (f := 8) rfl ?_); refine aq (some 19) rfl rfl Tryz.func8 (by kernel_rfl) rfl #[.string ((a1 ++ b0) ++ (⟨#[99]⟩ : ByteArray))] rfl aM_ ?_; (with_reducible refine (cD.calls ((a1 ++ b0) ++ (⟨#[99]⟩ : ByteArray)) d0 _ A6.out (HLD.out.below HLD.out.pos (hB_))).mono ?_); rintro e y0 ⟨rfl, hb⟩; refine ⟨_, rfl, ?_⟩; replace HB := aa.mk (ac (hB_) hb); (try clear hb)) | ((with_reducible refine ae (f := 9) rfl ?_); refine aq (some 20) rfl rfl Tryz.func9 (by kernel_rfl) rfl #[.string a0, .string a1, .string d0] rfl aM_ ?_; (with_reducible refine (aA.calls k a0 a1 d0 e0 true _ A7.out).mono ?_); rintro e B0 ⟨rfl, hb⟩; refine ⟨_, rfl, ?_⟩; replace HB := aa.mk (ac (hB_) hb); (try clear hb)) | ((with_reducible refine ae (f := 8) rfl ?_); refine aq (some 28) rfl rfl Tryz.func8 (by kernel_rfl) rfl #[.string ((a1 ++ b0) ++ (⟨#[107]⟩ : ByteArray))] rfl aM_ ?_; (with_reducible refine (cD.calls ((a1 ++ b0) ++ (⟨#[107]⟩ : ByteArray)) p0 _ A9.out (HLD.out.below HLD.out.pos (hB_))).mono ?_); rintro e C0 ⟨rfl, hb⟩; refine ⟨_, rfl, ?_⟩; replace HB := aa.mk (ac (hB_) hb); (try clear hb)))
  go_ret3
  exact ⟨f1_, hB_⟩
 ·replace c8 := ya c8
  subst c8
  replace H := iF_ H
  simp only [Option.some.injEq, Prod.mk.injEq] at H
  obtain ⟨rfl, rfl, rfl⟩ := H
  go_enter Tryz.func5, Tryz.ntmps5
  go_wp2_with (first | ((with_reducible refine ae (f := 8) rfl ?_); refine aq (some 12) rfl rfl Tryz.func8 (by kernel_rfl) rfl #[.string a0] rfl aM_ ?_; (with_reducible refine (cD.calls a0 b0 _ A3.out (HLD.out.below HLD.out.pos (hB_))).mono ?_); rintro e D0 ⟨rfl, hb⟩; refine ⟨_, rfl, ?_⟩; replace HB := aa.mk (ac (hB_) hb); (try clear hb)) | ((with_reducible refine ae (f := 8) rfl ?_); refine aq (some 19) rfl rfl Tryz.func8 (by kernel_rfl) rfl #[.string ((a1 ++ b0) ++ (⟨#[99]⟩ : ByteArray))] rfl aM_ ?_; (with_reducible refine (cD.calls ((a1 ++ b0) ++ (⟨#[99]⟩ : ByteArray)) d0 _ A6.out (HLD.out.below HLD.out.pos (hB_))).mono ?_); rintro e E0 ⟨rfl, hb⟩; refine ⟨_, rfl, ?_⟩; replace HB := aa.mk (ac (hB_) hb); (try clear hb)) | ((with_reducible refine ae (f := 9) rfl ?_); refine aq (some 20) rfl rfl Tryz.func9 (by kernel_rfl) rfl #[.string a0, .string a1, .string d0] rfl aM_ ?_; (with_reducible refine (aA.calls k a0 a1 d0 e0 false _ A7.out).mono ?_); rintro e F0 ⟨rfl, hb⟩; refine ⟨_, rfl, ?_⟩; replace HB := aa.mk (ac (hB_) hb); (try clear hb)))
  go_ret3
  exact ⟨f1_, hB_⟩

end Go.Proofs.YtielligodgabiaaGreatDoor.P
