-- printed texts of this session, regrouped
import Derived.Test.YtielligodgabiaaGreatDoorMWC
import Derived.Test.YtielligodgabiaaGreatDoorMWA
import Derived.Test.YtielligodgabiaaGreatDoorMW7
import Derived.Test.YtielligodgabiaaGreatDoorMW6
import Derived.Test.YtielligodgabiaaGreatDoorPx0
import Derived.Test.YtielligodgabiaaGreatDoorPx7
import Derived.Test.YtielligodgabiaaGreatDoorPx9
namespace Go.Proofs.YtielligodgabiaaGreatDoor.P
open Go.RowKit YtielligodgabiaaGreatDoorW.PrintWords YtielligodgabiaaGreatDoorW.PrintLast YtielligodgabiaaGreatDoorW.PrintMore
attribute [local go_sem] dJ dC ej eh dh di dB dK   -- for this text's walks alone
set_option linter.unusedVariables false
set_option linter.unusedSimpArgs false

/-! ### cx: function 4 -/
def cx.f (k : Nat) (a0 : ByteArray) (a1 : ByteArray) : Option (ByteArray × ByteArray × Bool) := (bW.f k a0).bind fun t551 => (if a1.size + t551.size ≤ 9223372036854775807 then (if (a1 ++ t551).size + 1 ≤ 9223372036854775807 then ((bW.f k ((a1 ++ t551) ++ (⟨#[99]⟩ : ByteArray))).bind fun t552 => ((al.f k a0 a1 t552).bind fun bt553 => (if bt553.2 = true then ((bW.f k ((a1 ++ t551) ++ (⟨#[107]⟩ : ByteArray))).bind fun t555 => (some (bt553.1, t555, true))) else (some ((⟨#[]⟩ : ByteArray), (⟨#[]⟩ : ByteArray), false))))) else (none)) else (none))
theorem cx.mono : ∀ a0 a1 k, LeO (cx.f k a0 a1) (cx.f (k + 1) a0 a1) := by
 intro a0 a1 k
 unfold cx.f
 exact o2_ bW.mono al.mono
set_option maxHeartbeats 8000000 in
set_option maxRecDepth 100000 in
theorem cx.calls (k : Nat) (a0 : ByteArray) (a1 : ByteArray) (r1 : ByteArray) (r2 : ByteArray) (r3 : Bool) (w : World) (h : cx.f k a0 a1 = some (r1, r2, r3)) :
  Calls Tryz.prog 4 #[.string a0, .string a1] w fun e w' => e = .returned (.tuple #[.string r1, .string r2, .bool r3]) ∧ Below w.heap.size w w' := by
 have HB := aa.mk (xa w.heap.size w)
 delta cx.f at h
 have H := h
 clear h
 obtain ⟨b0, A3, H⟩ := bN_ H
 obtain ⟨c4, H⟩ := iN_ H
 have q0 := va c4
 have r0 := ta c4
 try have t0 : (9223372036854775807 < a1.size + b0.size) = False := eq_false (Nat.not_lt.2 c4)
 obtain ⟨c5, H⟩ := iN_ H
 have u0 := va c5
 have v0 := ta c5
 try have f0 : (9223372036854775807 < (a1 ++ b0).size + 1) = False := eq_false (Nat.not_lt.2 c5)
 try (have j0 : (9223372036854775807 < (a1 ++ b0).size + 1) = False := f0; simp only [ByteArray.size_append] at j0)
 obtain ⟨d0, A6, H⟩ := bN_ H
 obtain ⟨⟨e0, k0⟩, A7, H⟩ := bN_ H
 by_cases c8 : k0 = true
 ·subst c8
  replace H := iT_ H
  obtain ⟨p0, A9, H⟩ := bN_ H
  simp only [Option.some.injEq, Prod.mk.injEq] at H
  obtain ⟨rfl, rfl, rfl⟩ := H
  go_enter Tryz.func4, Tryz.ntmps4
  go_wp2_with (first | ((with_reducible refine ae (f := 6) rfl ?_); refine aq (some 11) rfl rfl Tryz.func6 (by kernel_rfl) rfl #[.string a0] rfl aM_ ?_; (with_reducible refine (bW.calls k a0 b0 _ A3.out).mono ?_); rintro e x0 ⟨rfl, hb⟩; refine ⟨_, rfl, ?_⟩; replace HB := aa.mk (ac (hB_) hb); (try clear hb)) | ((with_reducible refine ae (f := 6) rfl ?_); refine aq (some 19) rfl rfl Tryz.func6 (by kernel_rfl) rfl #[.string ((a1 ++ b0) ++ (⟨#[99]⟩ : ByteArray))] rfl aM_ ?_; (with_reducible refine (bW.calls k ((a1 ++ b0) ++ (⟨#[99]⟩ : ByteArray)) d0 _ A6.out).mono ?_); rintro e y0 ⟨rfl, hb⟩; refine ⟨_, rfl, ?_⟩; replace HB := aa.mk (ac (hB_) hb); (try clear hb)) | ((with_reducible refine ae (f := 7) rfl ?_); refine aq (some 20) rfl rfl Tryz.func7 (by kernel_rfl) rfl #[.string a0, .string a1, .string d0] rfl aM_ ?_; (with_reducible refine (al.calls k a0 a1 d0 e0 true _ A7.out).mono ?_); rintro e B0 ⟨rfl, hb⟩; refine ⟨_, rfl, ?_⟩; replace HB := aa.mk (ac (hB_) hb); (try clear hb)) | ((with_reducible refine ae (f := 6) rfl ?_); refine aq (some 30) rfl rfl Tryz.func6 (by kernel_rfl) rfl #[.string ((a1 ++ b0) ++ (⟨#[107]⟩ : ByteArray))] rfl aM_ ?_; (with_reducible refine (bW.calls k ((a1 ++ b0) ++ (⟨#[107]⟩ : ByteArray)) p0 _ A9.out).mono ?_); rintro e C0 ⟨rfl, hb⟩; refine ⟨_, rfl, ?_⟩; replace HB := aa.mk (ac (hB_) hb); (try clear hb)))
  go_ret3
  exact ⟨f1_, hB_⟩
 ·replace c8 := ya c8
  subst c8
  replace H := iF_ H
  simp only [Option.some.injEq, Prod.mk.injEq] at H
  obtain ⟨rfl, rfl, rfl⟩ := H
  go_enter Tryz.func4, Tryz.ntmps4
  go_wp2_with (first | ((with_reducible refine ae (f := 6) rfl ?_); refine aq (some 11) rfl rfl Tryz.func6 (by kernel_rfl) rfl #[.string a0] rfl aM_ ?_; (with_reducible refine (bW.calls k a0 b0 _ A3.out).mono ?_); rintro e D0 ⟨rfl, hb⟩; refine ⟨_, rfl, ?_⟩; replace HB := aa.mk (ac (hB_) hb); (try clear hb)) | ((with_reducible refine ae (f := 6) rfl ?_); refine aq (some 19) rfl rfl Tryz.func6 (by kernel_rfl) rfl #[.string ((a1 ++ b0) ++ (⟨#[99]⟩ : ByteArray))] rfl aM_ ?_; (with_reducible refine (bW.calls k ((a1 ++ b0) ++ (⟨#[99]⟩ : ByteArray)) d0 _ A6.out).mono ?_); rintro e E0 ⟨rfl, hb⟩; refine ⟨_, rfl, ?_⟩; replace HB := aa.mk (ac (hB_) hb); (try clear hb)) | ((with_reducible refine ae (f := 7) rfl ?_); refine aq (some 20) rfl rfl Tryz.func7 (by kernel_rfl) rfl #[.string a0, .string a1, .string d0] rfl aM_ ?_; (with_reducible refine (al.calls k a0 a1 d0 e0 false _ A7.out).mono ?_); rintro e F0 ⟨rfl, hb⟩; refine ⟨_, rfl, ?_⟩; replace HB := aa.mk (ac (hB_) hb); (try clear hb)))
  go_ret3
  exact ⟨f1_, hB_⟩

end Go.Proofs.YtielligodgabiaaGreatDoor.P
