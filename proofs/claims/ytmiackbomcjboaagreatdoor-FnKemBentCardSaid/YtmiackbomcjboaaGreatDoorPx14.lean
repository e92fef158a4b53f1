-- printed texts of this session, regrouped
import Derived.Test.YtmiackbomcjboaaGreatDoorHA4
import Derived.Test.YtmiackbomcjboaaGreatDoorPx12
namespace Go.Proofs.YtmiackbomcjboaaGreatDoor.P
open Go.RowKit YtmiackbomcjboaaGreatDoorW.PrintWords YtmiackbomcjboaaGreatDoorW.PrintLast YtmiackbomcjboaaGreatDoorW.PrintMore
attribute [local go_sem] d9 eg eV eU dK dL d8 eh
set_option linter.unusedVariables false
set_option linter.unusedSimpArgs false
set_option maxHeartbeats 8000000
set_option maxRecDepth 100000
def cm.f (k : Nat) (a0 : ByteArray) (a1 : ByteArray) : Option (ByteArray × ByteArray × Bool) := (cw.f a0).bind fun t742 => (if a1.size + t742.size ≤ 9223372036854775807 then (if (a1 ++ t742).size + 1 ≤ 9223372036854775807 then ((cw.f ((a1 ++ t742) ++ (⟨#[99]⟩ : ByteArray))).bind fun t743 => ((aE.f k a0 a1 t743).bind fun bt744 => (if bt744.2 = true then ((cw.f ((a1 ++ t742) ++ (⟨#[107]⟩ : ByteArray))).bind fun t746 => (some (bt744.1, t746, true))) else (some ((⟨#[]⟩ : ByteArray), (⟨#[]⟩ : ByteArray), false))))) else (none)) else (none))
theorem cm.mono : ∀ a0 a1 k, LeO (cm.f k a0 a1) (cm.f (k + 1) a0 a1) := by
 intro a0 a1 k
 unfold cm.f
 exact o1_ aE.mono
theorem cm.calls (k : Nat) (a0 : ByteArray) (a1 : ByteArray) (r1 : ByteArray) (r2 : ByteArray) (r3 : Bool) (w : World) (h : cm.f k a0 a1 = some (r1, r2, r3)) (hLD : Laid w) :
  Calls Tryz.prog 7 #[.string a0, .string a1] w fun e w' => e = .returned (.tuple #[.string r1, .string r2, .bool r3]) ∧ Below w.heap.size w w' := by
 have HLD := c_ hLD
 clear hLD
 have HB := c_ (Da w.heap.size w)
 delta cm.f at h
 have H := h
 clear h
 obtain ⟨b0, A3, H⟩ := bN_ H
 obtain ⟨c4, H⟩ := iN_ H
 have j0 := Aa c4
 have k0 := ya c4
 try have n0 : (9223372036854775807 < a1.size + b0.size) = False := eq_false (Nat.not_lt.2 c4)
 obtain ⟨c5, H⟩ := iN_ H
 have p0 := Aa c5
 have q0 := ya c5
 try have d0 : (9223372036854775807 < (a1 ++ b0).size + 1) = False := eq_false (Nat.not_lt.2 c5)
 try (have e0 : (9223372036854775807 < (a1 ++ b0).size + 1) = False := d0; simp only [ByteArray.size_append] at e0)
 obtain ⟨r0, A6, H⟩ := bN_ H
 obtain ⟨⟨t0, f0⟩, A7, H⟩ := bN_ H
 by_cases c8 : f0 = true
 ·subst c8
  replace H := iT_ H
  obtain ⟨v0, A9, H⟩ := bN_ H
  simp only [Option.some.injEq, Prod.mk.injEq] at H
  obtain ⟨rfl, rfl, rfl⟩ := H
  go_enter Tryz.func7, Tryz.ntmps7
  go_wp2_with (first | (refine gb_ (k_ 12 Tryz.func24) (cw.calls _ _ _ A3.o (HLD.o.below HLD.o.pos (hB_))) fun x0 HB => ?_) | (refine gb_ (k_ 19 Tryz.func24) (cw.calls _ _ _ A6.o (HLD.o.below HLD.o.pos (hB_))) fun y0 HB => ?_) | (refine gb_ (k_ 20 Tryz.func12) (aE.calls _ _ _ _ _ _ _ A7.o) fun B0 HB => ?_) | (refine gb_ (k_ 28 Tryz.func24) (cw.calls _ _ _ A9.o (HLD.o.below HLD.o.pos (hB_))) fun C0 HB => ?_))
  go_ret3
  exact ⟨f1_, hB_⟩
 ·replace c8 := Ea c8
  subst c8
  replace H := iF_ H
  simp only [Option.some.injEq, Prod.mk.injEq] at H
  obtain ⟨rfl, rfl, rfl⟩ := H
  go_enter Tryz.func7, Tryz.ntmps7
  go_wp2_with (first | (refine gb_ (k_ 12 Tryz.func24) (cw.calls _ _ _ A3.o (HLD.o.below HLD.o.pos (hB_))) fun D0 HB => ?_) | (refine gb_ (k_ 19 Tryz.func24) (cw.calls _ _ _ A6.o (HLD.o.below HLD.o.pos (hB_))) fun E0 HB => ?_) | (refine gb_ (k_ 20 Tryz.func12) (aE.calls _ _ _ _ _ _ _ A7.o) fun F0 HB => ?_))
  go_ret3
  exact ⟨f1_, hB_⟩
def cu.f (k : Nat) (a0 : ByteArray) (a1 : ByteArray) : Option (ByteArray × Bool) := (cI.f k a0 a1).bind fun bt822 => (if bt822.2 = true then (if 768 ≤ 1568 then (if 1568 ≤ (a0.size : Int) then ((cm.f k (a0.extract 768 1568) bt822.1).bind fun bt824 => (if bt824.2.2 = true then (if bt824.1.toList = a1.toList then (some (bt824.2.1, true)) else (if 1600 ≤ (a0.size : Int) then (if (a0.extract 1600 a0.size).size + a1.size ≤ 9223372036854775807 then ((cw.f ((a0.extract 1600 a0.size) ++ a1)).bind fun t827 => (some (t827, true))) else (none)) else (none))) else (if 1600 ≤ (a0.size : Int) then (if (a0.extract 1600 a0.size).size + a1.size ≤ 9223372036854775807 then ((cw.f ((a0.extract 1600 a0.size) ++ a1)).bind fun t828 => (some (t828, true))) else (none)) else (none)))) else (none)) else (none)) else (some ((⟨#[]⟩ : ByteArray), false)))
theorem cu.mono : ∀ a0 a1 k, LeO (cu.f k a0 a1) (cu.f (k + 1) a0 a1) := by
 intro a0 a1 k
 unfold cu.f
 exact o2_ cI.mono cm.mono
theorem cu.calls (k : Nat) (a0 : ByteArray) (a1 : ByteArray) (r1 : ByteArray) (r2 : Bool) (w : World) (h : cu.f k a0 a1 = some (r1, r2)) (hLD : Laid w) :
  Calls Tryz.prog 10 #[.string a0, .string a1] w fun e w' => e = .returned (.tuple #[.string r1, .bool r2]) ∧ Below w.heap.size w w' := by
 have HLD := c_ hLD
 clear hLD
 have HB := c_ (Da w.heap.size w)
 delta cu.f at h
 have H := h
 clear h
 obtain ⟨⟨G0, d0⟩, A3, H⟩ := bN_ H
 by_cases c4 : d0 = true
 ·subst c4
  replace H := iT_ H
  obtain ⟨c5, H⟩ := iN_ H
  have H0 := Aa c5
  have I0 := ya c5
  clear c5
  obtain ⟨c6, H⟩ := iN_ H
  have J0 := Aa c6
  have K0 := ya c6
  clear c6
  obtain ⟨⟨b0, L0, e0⟩, A7, H⟩ := bN_ H
  by_cases c8 : e0 = true
  ·subst c8
   replace H := iT_ H
   by_cases c9 : b0.toList = a1.toList
   ·rw [Fa c9] at H
    have f0 : (b0.toList == a1.toList) = true := beq_iff_eq.mpr c9
    have j0 : (b0.toList != a1.toList) = false := bne_eq_false_iff_eq.mpr c9
    clear c9
    simp only [Option.some.injEq, Prod.mk.injEq] at H
    obtain ⟨rfl, rfl⟩ := H
    go_enter Tryz.func10, Tryz.ntmps10
    go_wp2_with (first | (refine gb_ (k_ 14 Tryz.func26) (cI.calls _ _ _ _ _ _ A3.o) fun Q0 HB => ?_) | (refine gb_ (k_ 23 Tryz.func7) (cm.calls _ _ _ _ _ _ _ A7.o (HLD.o.below HLD.o.pos (hB_))) fun R0 HB => ?_))
    go_ret2
    exact ⟨f1_, hB_⟩
   rw [Ga c9] at H
   have f0 : (b0.toList == a1.toList) = false := beq_eq_false_iff_ne.mpr c9
   have j0 : (b0.toList != a1.toList) = true := bne_iff_ne.mpr c9
   obtain ⟨k0, H⟩ := iN_ H
   have r0 := Aa k0
   have t0 := ya k0
   clear k0
   obtain ⟨n0, H⟩ := iN_ H
   have v0 := Aa n0
   have x0 := ya n0
   try have y0 : (9223372036854775807 < (a0.extract 1600 a0.size).size + a1.size) = False := eq_false (Nat.not_lt.2 n0)
   obtain ⟨M0, N0, H⟩ := bN_ H
   simp only [Option.some.injEq, Prod.mk.injEq] at H
   obtain ⟨rfl, rfl⟩ := H
   go_enter Tryz.func10, Tryz.ntmps10
   go_wp2_with (first | (refine gb_ (k_ 14 Tryz.func26) (cI.calls _ _ _ _ _ _ A3.o) fun S0 HB => ?_) | (refine gb_ (k_ 23 Tryz.func7) (cm.calls _ _ _ _ _ _ _ A7.o (HLD.o.below HLD.o.pos (hB_))) fun T0 HB => ?_) | (refine gb_ (k_ 38 Tryz.func24) (cw.calls _ _ _ N0.o (HLD.o.below HLD.o.pos (hB_))) fun U0 HB => ?_))
   go_ret2
   exact ⟨f1_, hB_⟩
  ·replace c8 := Ea c8
   subst c8
   replace H := iF_ H
   obtain ⟨p0, H⟩ := iN_ H
   have B0 := Aa p0
   have C0 := ya p0
   clear p0
   obtain ⟨q0, H⟩ := iN_ H
   have D0 := Aa q0
   have E0 := ya q0
   try have F0 : (9223372036854775807 < (a0.extract 1600 a0.size).size + a1.size) = False := eq_false (Nat.not_lt.2 q0)
   obtain ⟨O0, P0, H⟩ := bN_ H
   simp only [Option.some.injEq, Prod.mk.injEq] at H
   obtain ⟨rfl, rfl⟩ := H
   go_enter Tryz.func10, Tryz.ntmps10
   go_wp2_with (first | (refine gb_ (k_ 14 Tryz.func26) (cI.calls _ _ _ _ _ _ A3.o) fun V0 HB => ?_) | (refine gb_ (k_ 23 Tryz.func7) (cm.calls _ _ _ _ _ _ _ A7.o (HLD.o.below HLD.o.pos (hB_))) fun W0 HB => ?_) | (refine gb_ (k_ 38 Tryz.func24) (cw.calls _ _ _ P0.o (HLD.o.below HLD.o.pos (hB_))) fun X0 HB => ?_))
   go_ret2
   exact ⟨f1_, hB_⟩
 ·replace c4 := Ea c4
  subst c4
  replace H := iF_ H
  simp only [Option.some.injEq, Prod.mk.injEq] at H
  obtain ⟨rfl, rfl⟩ := H
  go_enter Tryz.func10, Tryz.ntmps10
  go_wp2_with (first | (refine gb_ (k_ 14 Tryz.func26) (cI.calls _ _ _ _ _ _ A3.o) fun Y0 HB => ?_))
  go_ret2
  exact ⟨f1_, hB_⟩
end Go.Proofs.YtmiackbomcjboaaGreatDoor.P
