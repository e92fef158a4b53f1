-- printed texts of this session, regrouped
import Derived.Test.YtooanbpkknlmjaaGreatDoorHA4
import Derived.Test.YtooanbpkknlmjaaGreatDoorPx11
namespace Go.Proofs.YtooanbpkknlmjaaGreatDoor.P
open Go.RowKit YtooanbpkknlmjaaGreatDoorW.PrintWords YtooanbpkknlmjaaGreatDoorW.PrintLast YtooanbpkknlmjaaGreatDoorW.PrintMore
attribute [local go_sem] dZ d4 eE ev dx dy dV dX
set_option linter.unusedVariables false
set_option linter.unusedSimpArgs false
set_option maxHeartbeats 8000000
set_option maxRecDepth 100000
def cv.f (k : Nat) (a0 : ByteArray) (a1 : ByteArray) : Option (ByteArray × ByteArray × Bool) := (cj.f a0).bind fun t927 => (if a1.size + t927.size ≤ 9223372036854775807 then (if (a1 ++ t927).size + 1 ≤ 9223372036854775807 then ((cj.f ((a1 ++ t927) ++ (⟨#[99]⟩ : ByteArray))).bind fun t928 => ((aD.f k a0 a1 t928).bind fun bt929 => (if bt929.2 = true then ((cj.f ((a1 ++ t927) ++ (⟨#[107]⟩ : ByteArray))).bind fun t931 => (some (bt929.1, t931, true))) else (some ((⟨#[]⟩ : ByteArray), (⟨#[]⟩ : ByteArray), false))))) else (none)) else (none))
theorem cv.mono : ∀ a0 a1 k, LeO (cv.f k a0 a1) (cv.f (k + 1) a0 a1) := by
 intro a0 a1 k
 unfold cv.f
 exact o1_ aD.mono
theorem cv.calls (k : Nat) (a0 : ByteArray) (a1 : ByteArray) (r1 : ByteArray) (r2 : ByteArray) (r3 : Bool) (w : World) (h : cv.f k a0 a1 = some (r1, r2, r3)) (hLD : Laid w) :
  Calls Tryz.prog 10 #[.string a0, .string a1] w fun e w' => e = .returned (.tuple #[.string r1, .string r2, .bool r3]) ∧ Below w.heap.size w w' := by
 have HLD := c_ hLD
 clear hLD
 have HB := c_ (Ba w.heap.size w)
 delta cv.f at h
 have H := h
 clear h
 obtain ⟨b0, A3, H⟩ := bN_ H
 obtain ⟨c4, H⟩ := iN_ H
 have p0 := ya c4
 have q0 := wa c4
 try have r0 : (9223372036854775807 < a1.size + b0.size) = False := eq_false (Nat.not_lt.2 c4)
 obtain ⟨c5, H⟩ := iN_ H
 have t0 := ya c5
 have u0 := wa c5
 try have f0 : (9223372036854775807 < (a1 ++ b0).size + 1) = False := eq_false (Nat.not_lt.2 c5)
 try (have j0 : (9223372036854775807 < (a1 ++ b0).size + 1) = False := f0; simp only [ByteArray.size_append] at j0)
 obtain ⟨d0, A6, H⟩ := bN_ H
 obtain ⟨⟨e0, k0⟩, A7, H⟩ := bN_ H
 by_cases c8 : k0 = true
 ·subst c8
  replace H := iT_ H
  obtain ⟨n0, A9, H⟩ := bN_ H
  simp only [Option.some.injEq, Prod.mk.injEq] at H
  obtain ⟨rfl, rfl, rfl⟩ := H
  go_enter Tryz.func10, Tryz.ntmps10
  go_wp2_with (first | (refine gq_ 11 (some 12) Tryz.func11 #[.string a0] (cj.calls a0 b0 _ A3.o (HLD.o.below HLD.o.pos (hB_))) ?_; rintro e v0 ⟨rfl, hb⟩; refine ⟨_, rfl, ?_⟩; replace HB := c_ (ab (hB_) hb); (try clear hb)) | (refine gq_ 11 (some 19) Tryz.func11 #[.string ((a1 ++ b0) ++ (⟨#[99]⟩ : ByteArray))] (cj.calls ((a1 ++ b0) ++ (⟨#[99]⟩ : ByteArray)) d0 _ A6.o (HLD.o.below HLD.o.pos (hB_))) ?_; rintro e x0 ⟨rfl, hb⟩; refine ⟨_, rfl, ?_⟩; replace HB := c_ (ab (hB_) hb); (try clear hb)) | (refine gq_ 21 (some 20) Tryz.func21 #[.string a0, .string a1, .string d0] (aD.calls k a0 a1 d0 e0 true _ A7.o) ?_; rintro e y0 ⟨rfl, hb⟩; refine ⟨_, rfl, ?_⟩; replace HB := c_ (ab (hB_) hb); (try clear hb)) | (refine gq_ 11 (some 28) Tryz.func11 #[.string ((a1 ++ b0) ++ (⟨#[107]⟩ : ByteArray))] (cj.calls ((a1 ++ b0) ++ (⟨#[107]⟩ : ByteArray)) n0 _ A9.o (HLD.o.below HLD.o.pos (hB_))) ?_; rintro e B0 ⟨rfl, hb⟩; refine ⟨_, rfl, ?_⟩; replace HB := c_ (ab (hB_) hb); (try clear hb)))
  go_ret3
  exact ⟨f1_, hB_⟩
 ·replace c8 := Ca c8
  subst c8
  replace H := iF_ H
  simp only [Option.some.injEq, Prod.mk.injEq] at H
  obtain ⟨rfl, rfl, rfl⟩ := H
  go_enter Tryz.func10, Tryz.ntmps10
  go_wp2_with (first | (refine gq_ 11 (some 12) Tryz.func11 #[.string a0] (cj.calls a0 b0 _ A3.o (HLD.o.below HLD.o.pos (hB_))) ?_; rintro e C0 ⟨rfl, hb⟩; refine ⟨_, rfl, ?_⟩; replace HB := c_ (ab (hB_) hb); (try clear hb)) | (refine gq_ 11 (some 19) Tryz.func11 #[.string ((a1 ++ b0) ++ (⟨#[99]⟩ : ByteArray))] (cj.calls ((a1 ++ b0) ++ (⟨#[99]⟩ : ByteArray)) d0 _ A6.o (HLD.o.below HLD.o.pos (hB_))) ?_; rintro e D0 ⟨rfl, hb⟩; refine ⟨_, rfl, ?_⟩; replace HB := c_ (ab (hB_) hb); (try clear hb)) | (refine gq_ 21 (some 20) Tryz.func21 #[.string a0, .string a1, .string d0] (aD.calls k a0 a1 d0 e0 false _ A7.o) ?_; rintro e E0 ⟨rfl, hb⟩; refine ⟨_, rfl, ?_⟩; replace HB := c_ (ab (hB_) hb); (try clear hb)))
  go_ret3
  exact ⟨f1_, hB_⟩
def cm.f (k : Nat) (a0 : ByteArray) (a1 : ByteArray) : Option (ByteArray × Bool) := (cA.f k a0 a1).bind fun bt932 => (if bt932.2 = true then (if 768 ≤ 1568 then (if 1568 ≤ (a0.size : Int) then ((cv.f k (a0.extract 768 1568) bt932.1).bind fun bt934 => (if bt934.2.2 = true then (if bt934.1.toList = a1.toList then (some (bt934.2.1, true)) else (if 1600 ≤ (a0.size : Int) then (if (a0.extract 1600 a0.size).size + a1.size ≤ 9223372036854775807 then ((cj.f ((a0.extract 1600 a0.size) ++ a1)).bind fun t937 => (some (t937, true))) else (none)) else (none))) else (if 1600 ≤ (a0.size : Int) then (if (a0.extract 1600 a0.size).size + a1.size ≤ 9223372036854775807 then ((cj.f ((a0.extract 1600 a0.size) ++ a1)).bind fun t938 => (some (t938, true))) else (none)) else (none)))) else (none)) else (none)) else (some ((⟨#[]⟩ : ByteArray), false)))
theorem cm.mono : ∀ a0 a1 k, LeO (cm.f k a0 a1) (cm.f (k + 1) a0 a1) := by
 intro a0 a1 k
 unfold cm.f
 exact o2_ cA.mono cv.mono
theorem cm.calls (k : Nat) (a0 : ByteArray) (a1 : ByteArray) (r1 : ByteArray) (r2 : Bool) (w : World) (h : cm.f k a0 a1 = some (r1, r2)) (hLD : Laid w) :
  Calls Tryz.prog 5 #[.string a0, .string a1] w fun e w' => e = .returned (.tuple #[.string r1, .bool r2]) ∧ Below w.heap.size w w' := by
 have HLD := c_ hLD
 clear hLD
 have HB := c_ (Ba w.heap.size w)
 delta cm.f at h
 have H := h
 clear h
 obtain ⟨⟨b0, f0⟩, A3, H⟩ := bN_ H
 by_cases c4 : f0 = true
 ·subst c4
  replace H := iT_ H
  obtain ⟨c5, H⟩ := iN_ H
  have J0 := ya c5
  have K0 := wa c5
  clear c5
  obtain ⟨c6, H⟩ := iN_ H
  have L0 := ya c6
  have M0 := wa c6
  clear c6
  obtain ⟨⟨d0, e0, j0⟩, A7, H⟩ := bN_ H
  by_cases c8 : j0 = true
  ·subst c8
   replace H := iT_ H
   by_cases c9 : d0.toList = a1.toList
   ·rw [Da c9] at H
    have k0 : (d0.toList == a1.toList) = true := beq_iff_eq.mpr c9
    have n0 : (d0.toList != a1.toList) = false := bne_eq_false_iff_eq.mpr c9
    clear c9
    simp only [Option.some.injEq, Prod.mk.injEq] at H
    obtain ⟨rfl, rfl⟩ := H
    go_enter Tryz.func5, Tryz.ntmps5
    go_wp2_with (first | (refine gq_ 9 (some 14) Tryz.func9 #[.string a0, .string a1] (cA.calls k a0 a1 b0 true _ A3.o) ?_; rintro e P0 ⟨rfl, hb⟩; refine ⟨_, rfl, ?_⟩; replace HB := c_ (ab (hB_) hb); (try clear hb)) | (refine gq_ 10 (some 23) Tryz.func10 #[.string (a0.extract 768 1568), .string b0] (cv.calls k (a0.extract 768 1568) b0 d0 e0 true _ A7.o (HLD.o.below HLD.o.pos (hB_))) ?_; rintro e Q0 ⟨rfl, hb⟩; refine ⟨_, rfl, ?_⟩; replace HB := c_ (ab (hB_) hb); (try clear hb)))
    go_ret2
    exact ⟨f1_, hB_⟩
   rw [Ea c9] at H
   have k0 : (d0.toList == a1.toList) = false := beq_eq_false_iff_ne.mpr c9
   have n0 : (d0.toList != a1.toList) = true := bne_iff_ne.mpr c9
   obtain ⟨p0, H⟩ := iN_ H
   have x0 := ya p0
   have y0 := wa p0
   clear p0
   obtain ⟨q0, H⟩ := iN_ H
   have B0 := ya q0
   have C0 := wa q0
   try have D0 : (9223372036854775807 < (a0.extract 1600 a0.size).size + a1.size) = False := eq_false (Nat.not_lt.2 q0)
   obtain ⟨r0, N0, H⟩ := bN_ H
   simp only [Option.some.injEq, Prod.mk.injEq] at H
   obtain ⟨rfl, rfl⟩ := H
   go_enter Tryz.func5, Tryz.ntmps5
   go_wp2_with (first | (refine gq_ 9 (some 14) Tryz.func9 #[.string a0, .string a1] (cA.calls k a0 a1 b0 true _ A3.o) ?_; rintro e R0 ⟨rfl, hb⟩; refine ⟨_, rfl, ?_⟩; replace HB := c_ (ab (hB_) hb); (try clear hb)) | (refine gq_ 10 (some 23) Tryz.func10 #[.string (a0.extract 768 1568), .string b0] (cv.calls k (a0.extract 768 1568) b0 d0 e0 true _ A7.o (HLD.o.below HLD.o.pos (hB_))) ?_; rintro e S0 ⟨rfl, hb⟩; refine ⟨_, rfl, ?_⟩; replace HB := c_ (ab (hB_) hb); (try clear hb)) | (refine gq_ 11 (some 38) Tryz.func11 #[.string ((a0.extract 1600 a0.size) ++ a1)] (cj.calls ((a0.extract 1600 a0.size) ++ a1) r0 _ N0.o (HLD.o.below HLD.o.pos (hB_))) ?_; rintro e T0 ⟨rfl, hb⟩; refine ⟨_, rfl, ?_⟩; replace HB := c_ (ab (hB_) hb); (try clear hb)))
   go_ret2
   exact ⟨f1_, hB_⟩
  ·replace c8 := Ca c8
   subst c8
   replace H := iF_ H
   obtain ⟨t0, H⟩ := iN_ H
   have E0 := ya t0
   have F0 := wa t0
   clear t0
   obtain ⟨u0, H⟩ := iN_ H
   have G0 := ya u0
   have H0 := wa u0
   try have I0 : (9223372036854775807 < (a0.extract 1600 a0.size).size + a1.size) = False := eq_false (Nat.not_lt.2 u0)
   obtain ⟨v0, O0, H⟩ := bN_ H
   simp only [Option.some.injEq, Prod.mk.injEq] at H
   obtain ⟨rfl, rfl⟩ := H
   go_enter Tryz.func5, Tryz.ntmps5
   go_wp2_with (first | (refine gq_ 9 (some 14) Tryz.func9 #[.string a0, .string a1] (cA.calls k a0 a1 b0 true _ A3.o) ?_; rintro e U0 ⟨rfl, hb⟩; refine ⟨_, rfl, ?_⟩; replace HB := c_ (ab (hB_) hb); (try clear hb)) | (refine gq_ 10 (some 23) Tryz.func10 #[.string (a0.extract 768 1568), .string b0] (cv.calls k (a0.extract 768 1568) b0 d0 e0 false _ A7.o (HLD.o.below HLD.o.pos (hB_))) ?_; rintro e V0 ⟨rfl, hb⟩; refine ⟨_, rfl, ?_⟩; replace HB := c_ (ab (hB_) hb); (try clear hb)) | (refine gq_ 11 (some 38) Tryz.func11 #[.string ((a0.extract 1600 a0.size) ++ a1)] (cj.calls ((a0.extract 1600 a0.size) ++ a1) v0 _ O0.o (HLD.o.below HLD.o.pos (hB_))) ?_; rintro e W0 ⟨rfl, hb⟩; refine ⟨_, rfl, ?_⟩; replace HB := c_ (ab (hB_) hb); (try clear hb)))
   go_ret2
   exact ⟨f1_, hB_⟩
 ·replace c4 := Ca c4
  subst c4
  replace H := iF_ H
  simp only [Option.some.injEq, Prod.mk.injEq] at H
  obtain ⟨rfl, rfl⟩ := H
  go_enter Tryz.func5, Tryz.ntmps5
  go_wp2_with (first | (refine gq_ 9 (some 14) Tryz.func9 #[.string a0, .string a1] (cA.calls k a0 a1 b0 false _ A3.o) ?_; rintro e X0 ⟨rfl, hb⟩; refine ⟨_, rfl, ?_⟩; replace HB := c_ (ab (hB_) hb); (try clear hb)))
  go_ret2
  exact ⟨f1_, hB_⟩
end Go.Proofs.YtooanbpkknlmjaaGreatDoor.P
