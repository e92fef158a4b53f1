-- printed texts of this session, regrouped
import Derived.Test.YtmiackbomcjboaaGreatDoorHA5
import Derived.Test.YtmiackbomcjboaaGreatDoorPx2
namespace Go.Proofs.YtmiackbomcjboaaGreatDoor.P
open Go.RowKit YtmiackbomcjboaaGreatDoorW.PrintWords YtmiackbomcjboaaGreatDoorW.PrintLast YtmiackbomcjboaaGreatDoorW.PrintMore
attribute [local go_sem] d9 eg eV eU dK dL d8 eh
set_option linter.unusedVariables false
set_option linter.unusedSimpArgs false
set_option maxHeartbeats 8000000
set_option maxRecDepth 100000
def bc.f (k : Nat) (a0 : ByteArray) : Option (ByteArray) := (cU.f k).bind fun bt196 => ((aI.f k bt196.1 bt196.2.1 bt196.2.2 a0).bind fun bt199 => ((dz.f k bt199.1 bt199.2.1 bt199.2.2).bind fun t202 => (some t202)))
theorem bc.mono : ∀ a0 k, LeO (bc.f k a0) (bc.f (k + 1) a0) := by
 intro a0 k
 unfold bc.f
 exact o3_ dz.mono aI.mono cU.mono
theorem bc.calls (k : Nat) (a0 : ByteArray) (r : ByteArray) (w : World) (h : bc.f k a0 = some r) :
  Calls Tryz.prog 15 #[.string a0] w fun e w' => e = .returned (.string r) ∧ Below w.heap.size w w' := by
 have HB := c_ (Da w.heap.size w)
 delta bc.f at h
 have H := h
 clear h
 obtain ⟨⟨b0, d0, e0⟩, A2, H⟩ := bN_ H
 obtain ⟨⟨f0, j0, k0⟩, A3, H⟩ := bN_ H
 obtain ⟨n0, A4, H⟩ := bN_ H
 obtain rfl := Ba H
 go_enter Tryz.func15, Tryz.ntmps15
 go_wp2_with (first | (refine gb_ (k_ 3 Tryz.func45) (cU.calls _ _ _ _ _ A2.o) fun w5 HB => ?_) | (refine gb_ (k_ 5 Tryz.func44) (aI.calls _ _ _ _ _ _ _ _ _ A3.o) fun w6 HB => ?_) | (refine gb_ (k_ 6 Tryz.func43) (dz.calls _ _ _ _ _ _ A4.o) fun w7 HB => ?_))
 go_ret
 exact ⟨f1_, hB_⟩
def cF.f (k : Nat) (l0 : List Int) : Option (ByteArray × ByteArray) := (bQ.f k l0).bind fun bt228 => ((dj.f bt228.1 bt228.2.1 bt228.2.2 4).bind fun bt232 => ((bk.f k bt228.1 bt232.2.1 bt232.2.2 bt232.1).bind fun bt235 => ((bc.f k bt235.1).bind fun t238 => ((dj.f bt228.1 bt235.2.1 bt235.2.2 4).bind fun bt239 => ((bk.f k bt228.1 bt239.2.1 bt239.2.2 bt239.1).bind fun bt242 => ((bc.f k bt242.1).bind fun t245 => (some (t238, t245))))))))
theorem cF.mono : ∀ a0 k, LeO (cF.f k a0) (cF.f (k + 1) a0) := by
 intro a0 k
 unfold cF.f
 exact o3_ bc.mono bQ.mono bk.mono
theorem cF.calls (k : Nat) (A0 : Option Addr) (c0 : Nat) (l0 : List Int) (r1 : ByteArray) (r2 : ByteArray) (w : World) (hr0 : Kd.C (Kd.int .u8) w A0 l0.length l0) (hc0 : l0.length ≤ c0) (h : cF.f k l0 = some (r1, r2)) :
  Calls Tryz.prog 5 #[.slice A0 l0.length c0] w fun e w' => e = .returned (.tuple #[.string r1, .string r2]) ∧ Below w.heap.size w w' := by
 have a0 := c_ hr0
 have b0 := c_ hc0
 clear hr0 hc0
 have HB := c_ (Da w.heap.size w)
 delta cF.f at h
 have H := h
 clear h
 obtain ⟨⟨d0, e0, f0⟩, A2, H⟩ := bN_ H
 obtain ⟨⟨j0, k0, n0⟩, A3, H⟩ := bN_ H
 obtain ⟨⟨p0, q0, r0⟩, A4, H⟩ := bN_ H
 obtain ⟨t0, A5, H⟩ := bN_ H
 obtain ⟨⟨v0, x0, y0⟩, A6, H⟩ := bN_ H
 obtain ⟨⟨B0, C0, D0⟩, A7, H⟩ := bN_ H
 obtain ⟨E0, A8, H⟩ := bN_ H
 simp only [Option.some.injEq, Prod.mk.injEq] at H
 obtain ⟨rfl, rfl⟩ := H
 go_enter Tryz.func5, Tryz.ntmps5
 go_wp2_with (first | (refine gr_ (k_ 6 Tryz.func14) (bQ.calls _ _ _ _ _ _ _ w _ u6_ a0.o b0.o A2.o) ?_; rintro e w9 ⟨g231, rfl, hi, hb, hb2⟩; refine ⟨_, rfl, ?_⟩; obtain ⟨HB, HI231⟩ := b_ (hb) <| c_ (hi); (try clear hi)) | (refine gr_ (k_ 9 Tryz.func17) (dj.calls g231 _ _ _ _ _ _ _ w _ u8_ (u4_ (bx.ge HI231.o)) A3.o) ?_; rintro e F0 ⟨rfl, hi, hb, hk⟩; refine ⟨_, rfl, ?_⟩; obtain ⟨HB, HI231⟩ := b_ (hb) <| c_ (hi); (try clear hi)) | (refine gr_ (k_ 10 Tryz.func16) (bk.calls _ g231 _ _ _ _ _ _ _ w _ u8_ (u4_ (bx.ge HI231.o)) A4.o) ?_; rintro e G0 ⟨rfl, hi, hb, hk⟩; refine ⟨_, rfl, ?_⟩; obtain ⟨HB, HI231⟩ := b_ (hb) <| c_ (hi); (try clear hi)) | (refine gc_ (k_ 11 Tryz.func15) (bc.calls _ _ _ _ A5.o) fun H0 hb => ?_; obtain ⟨HI231, HB⟩ := b_ (bx.below ((u8_)) hb) <| c_ (du ((u4_ (bx.ge HI231.o))) hb)) | (refine gr_ (k_ 14 Tryz.func17) (dj.calls g231 _ _ _ _ _ _ _ w _ u8_ (u4_ (bx.ge HI231.o)) A6.o) ?_; rintro e I0 ⟨rfl, hi, hb, hk⟩; refine ⟨_, rfl, ?_⟩; obtain ⟨HB, HI231⟩ := b_ (hb) <| c_ (hi); (try clear hi)) | (refine gr_ (k_ 15 Tryz.func16) (bk.calls _ g231 _ _ _ _ _ _ _ w _ u8_ (u4_ (bx.ge HI231.o)) A7.o) ?_; rintro e J0 ⟨rfl, hi, hb, hk⟩; refine ⟨_, rfl, ?_⟩; obtain ⟨HB, HI231⟩ := b_ (hb) <| c_ (hi); (try clear hi)) | (refine gc_ (k_ 16 Tryz.func15) (bc.calls _ _ _ _ A8.o) fun K0 hb => ?_; obtain ⟨HI231, HB⟩ := b_ (bx.below ((u8_)) hb) <| c_ (du ((u4_ (bx.ge HI231.o))) hb)))
 go_ret2
 exact ⟨f1_, (u4_ (bx.ge HI231.o))⟩
end Go.Proofs.YtmiackbomcjboaaGreatDoor.P
