-- printed texts of this session, regrouped
import Derived.Test.YtmdlpmddljbkeaaGreatDoorHA4
import Derived.Test.YtmdlpmddljbkeaaGreatDoorPx7
import Derived.Test.YtmdlpmddljbkeaaGreatDoorPx9
namespace Go.Proofs.YtmdlpmddljbkeaaGreatDoor.P
open Go.RowKit YtmdlpmddljbkeaaGreatDoorW.PrintWords YtmdlpmddljbkeaaGreatDoorW.PrintLast YtmdlpmddljbkeaaGreatDoorW.PrintMore
open Kd
attribute [local go_sem] d3 dW eG eI dD dC dZ dY
set_option linter.unusedVariables false
set_option linter.unusedSimpArgs false
set_option maxHeartbeats 8000000
set_option maxRecDepth 100000
def bu.l0 : Nat → ByteArray → ByteArray → List (List Int) → List (List Int) → ByteArray → ByteArray → Int → Option (ByteArray × ByteArray × Bool)
 | 0, _, _, _, _, _, _, _ => none
 | k + 1, x4, x5, x7, x8, x9, x10, x30 => if x30 < 2 then ((bV.f k x5 x30 false).bind fun t410 => ((bB.f k t410 x7).bind fun t413 => (if 0 ≤ x30 then (if x30 < (x8.length : Int) then ((bD.f k t413 (dE x8 x30)).bind fun t417 => ((cp.f k t417).bind fun t420 => (if x9.size + t420.size ≤ 9223372036854775807 then (if x30 < (x7.length : Int) then ((cp.f k (dE x7 x30)).bind fun t422 => (if x10.size + t422.size ≤ 9223372036854775807 then (bu.l0 k x4 x5 x7 x8 (x9 ++ t420) (x10 ++ t422) (wrap64 (x30 + 1))) else (none))) else (none)) else (none)))) else (none)) else (none)))) else (if x9.size + x5.size ≤ 9223372036854775807 then (if x10.size + (x9 ++ x5).size ≤ 9223372036854775807 then ((bM.f (x9 ++ x5)).bind fun t408 => (if (x10 ++ (x9 ++ x5)).size + t408.size ≤ 9223372036854775807 then (if x4.size + 1 ≤ 9223372036854775807 then ((bM.f (x4 ++ (⟨#[122]⟩ : ByteArray))).bind fun t409 => (if ((x10 ++ (x9 ++ x5)) ++ t408).size + t409.size ≤ 9223372036854775807 then (some (x9 ++ x5, ((x10 ++ (x9 ++ x5)) ++ t408) ++ t409, true)) else (none))) else (none)) else (none))) else (none)) else (none))
def bu.f (k : Nat) (a0 : ByteArray) : Option (ByteArray × ByteArray × Bool) := if (a0.size : Int) = 32 then ((bM.f a0).bind fun t393 => (if t393.size + 1 ≤ 9223372036854775807 then ((bM.f (t393 ++ (⟨#[114]⟩ : ByteArray))).bind fun t394 => ((bM.f (t393 ++ (⟨#[115]⟩ : ByteArray))).bind fun t395 => ((bs.f k t395 0).bind fun t396 => ((bZ.f k t396).bind fun t399 => ((bs.f k t395 2).bind fun t402 => ((bZ.f k t402).bind fun t405 => (bu.l0 k t393 t394 t399 t405 (⟨#[]⟩ : ByteArray) (⟨#[]⟩ : ByteArray) 0))))))) else (none))) else (some ((⟨#[]⟩ : ByteArray), (⟨#[]⟩ : ByteArray), false))
theorem bu.mono_l : ∀ k, (∀ y0 y1 y2 y3 y4 y5 y6, LeO (bu.l0 k y0 y1 y2 y3 y4 y5 y6) (bu.l0 (k + 1) y0 y1 y2 y3 y4 y5 y6))
 | 0 => fun _ _ _ _ _ _ _ r h => by simp [bu.l0] at h
 | k + 1 => by
  have ih0 := bu.mono_l k
  intros; unfold bu.l0; exact o7_ ih0 bD.mono cp.mono bB.mono bZ.mono bV.mono bs.mono
theorem bu.mono : ∀ a0 k, LeO (bu.f k a0) (bu.f (k + 1) a0) := by
 intro a0 k
 have ih0 := bu.mono_l k
 unfold bu.f
 exact o7_ ih0 bD.mono cp.mono bB.mono bZ.mono bV.mono bs.mono
def bu.T10 : Bool × List (List Nat × List Nat) := (true, [([], []), ([], []), ([], []), ([1, 2], [1, 2]), ([], []), ([3, 4, 3], [3, 4]), ([], []), ([], []), ([6, 7], [6, 7]), ([8], [8]), ([5, 9, 5], [5, 9]), ([10, 10], [10]), ([0, 11], [0, 11]), ([12, 11, 0, 1, 2, 3, 4, 5, 6, 7, 8, 9, 10, 11, 12], [0, 12])])
def bu.B10 : List Nat := [0, 0, 0, 6, 0, 30, 0, 0, 192, 448, 1022, 2046, 4095, 8191]
theorem bu.tab10 : eu .any (fu Tryz.f6 10) = bu.T10 := by kernel_rfl
theorem bu.bits10 : dd bu.T10.2 bu.B10 = true := by kernel_rfl
theorem bu.calls (k : Nat) (a0 : ByteArray) (r1 : ByteArray) (r2 : ByteArray) (r3 : Bool) (w : World) (h : bu.f k a0 = some (r1, r2, r3)) (hLD : Laid w) :
  Calls Tryz.prog 6 #[.string a0] w fun e w' => e = .returned (.tuple #[.agg #[.string r1, .string r2], .bool r3]) ∧ Below w.heap.size w w' := by
 have HLD := c_ hLD
 clear hLD
 have hu27 := Tryz.underlying27
 have HB := c_ (Da w.heap.size w)
 delta bu.f at h
 have H := h
 clear h
 by_cases c2 : (a0.size : Int) = 32
 rotate_left
 ·rw [Ga c2] at H
  have S1 : ((a0.size : Int) == 32) = false := beq_eq_false_iff_ne.mpr c2
  have T1 : ((a0.size : Int) != 32) = true := bne_iff_ne.mpr c2
  simp only [Option.some.injEq, Prod.mk.injEq] at H
  obtain ⟨rfl, rfl, rfl⟩ := H
  go_enter Tryz.func6, Tryz.ntmps6
  go_wp2_with (first | (refine bx_ 2 #[.string (⟨#[]⟩ : ByteArray), .string (⟨#[]⟩ : ByteArray)] 27 fun D0 C2 hb HB b0 n0 => ?_; have K1 : C2.cell? ⟨D0, 0, none⟩ = some (.string (⟨#[]⟩ : ByteArray)) := (ah b0.o 0).trans rfl; have L1 : C2.cell? ⟨D0, 1, none⟩ = some (.string (⟨#[]⟩ : ByteArray)) := (ah b0.o 1).trans rfl; have M1 := ae b0.o 0; have N1 := ae b0.o 1))
  refine bodyPost_ret (fJ rfl _ _ D0 27 #[.string (⟨#[]⟩ : ByteArray), .string (⟨#[]⟩ : ByteArray)] (0, 0) _ rfl (by refine kK_ ?_; refine bO (cs := #[.string (⟨#[]⟩ : ByteArray), .string (⟨#[]⟩ : ByteArray)]) ?_ 1 _ rfl; refine kK_ ?_; refine bO (cs := #[.string (⟨#[]⟩ : ByteArray), .string (⟨#[]⟩ : ByteArray)]) ?_ 0 _ rfl; exact rK_ b0.o) Tryz.underlying27 rfl (by kernel_rfl)) rfl ?_
  exact ⟨f1_, hS_ n0.o⟩
 rw [Fa c2] at H
 have S1 : ((a0.size : Int) == 32) = true := beq_iff_eq.mpr c2
 have T1 : ((a0.size : Int) != 32) = false := bne_eq_false_iff_eq.mpr c2
 clear c2
 obtain ⟨c1, A3, H⟩ := bN_ H
 obtain ⟨c4, H⟩ := iN_ H
 have f3 := Aa c4
 have g3 := ya c4
 try have i3 : (9223372036854775807 < c1.size + 1) = False := eq_false (Nat.not_lt.2 c4)
 obtain ⟨C0, A5, H⟩ := bN_ H
 obtain ⟨l3, A6, H⟩ := bN_ H
 obtain ⟨m3, A7, H⟩ := bN_ H
 obtain ⟨Q0, A8, H⟩ := bN_ H
 obtain ⟨n3, A9, H⟩ := bN_ H
 obtain ⟨K0, p3, H⟩ := bN_ H
 have H' := c_ H
 clear H
 go_enter Tryz.func6, Tryz.ntmps6
 go_wp2_with (first | (refine bx_ 2 #[.string (⟨#[]⟩ : ByteArray), .string (⟨#[]⟩ : ByteArray)] 27 fun D0 P3 hb HB b0 n0 => ?_) | (refine gc_ (k_ 17 Tryz.func18) (bM.calls _ _ _ A3.o (HLD.o.below HLD.o.pos (hS_ n0.o))) fun Q3 hb => ?_; obtain ⟨b0, HB⟩ := n_ (fK_ b0) <| sB_) | (refine gc_ (k_ 20 Tryz.func18) (bM.calls _ _ _ A5.o (HLD.o.below HLD.o.pos (hS_ n0.o))) fun R3 hb => ?_; obtain ⟨b0, HB⟩ := n_ (fK_ b0) <| sB_) | (refine gc_ (k_ 23 Tryz.func18) (bM.calls _ _ _ A6.o (HLD.o.below HLD.o.pos (hS_ n0.o))) fun S3 hb => ?_; obtain ⟨b0, HB⟩ := n_ (fK_ b0) <| sB_) | (refine gR_ (k_ 25 Tryz.func20) (bs.calls _ _ _ _ _ A7.o) fun q3 T3 ho_ hb => ?_; obtain ⟨p0, b0, HB⟩ := n_ (lS_ ho_) <| n_ (fK_ b0) <| sB_; obtain ⟨t3, v3, U1⟩ := vs p0.o; subst U1) | (refine gR_ (k_ 26 Tryz.func19) (bZ.calls _ _ _ _ _ _ (cR_ (ve p0.o).2.2) ((ve p0.o).2.1) A8.o) fun m1 U3 ho_ hb => ?_; obtain ⟨p0, F0, b0, HB⟩ := n_ (ll p0) <| n_ (lS_ (lq ho_ p0)) <| n_ (fK_ b0) <| sB_) | (refine gR_ (k_ 28 Tryz.func20) (bs.calls _ _ _ _ _ A9.o) fun w3 V3 ho_ hb => ?_; obtain ⟨p0, F0, H0, b0, HB⟩ := n_ (ll p0) <| n_ (ll F0) <| n_ (lS_ (lq (lq ho_ p0) F0)) <| n_ (fK_ b0) <| sB_; obtain ⟨y3, z3, V1⟩ := vs H0.o; subst V1) | (refine gR_ (k_ 29 Tryz.func19) (bZ.calls _ _ _ _ _ _ (cR_ (ve H0.o).2.2) ((ve H0.o).2.1) p3.o) fun n1 W3 ho_ hb => ?_; obtain ⟨p0, F0, H0, p1, b0, HB⟩ := n_ (ll p0) <| n_ (ll F0) <| n_ (ll H0) <| n_ (lS_ (lq (lq (lq ho_ p0) F0) H0)) <| n_ (fK_ b0) <| sB_))
 go_loopg [9, 10, 30] k (fun kq v9 B3 C3 w' => ∃ (x0 : ByteArray) (q0 : ByteArray) (f0 : Int), v9 = .string x0 ∧ B3 = .string q0 ∧ C3 = .int .i64 f0 ∧ aa (bu.l0 kq c1 C0 Q0 K0 x0 q0 f0 = some (r1, r2, r3)) ∧ aa (kq ≤ k) ∧ aa (Kd.S (Kd.slice 3 (Kd.int .i64)) 45 w' w.heap.size (fun k_ => some k_ ≠ (n1 : Value).ownBlock) m1 Q0) ∧ aa (Kd.S (Kd.slice 3 (Kd.int .i64)) 45 w' w.heap.size (fun k_ => some k_ ≠ (m1 : Value).ownBlock) n1 K0) ∧ aa (w'.heap[D0]? = some (.cells #[.string (⟨#[]⟩ : ByteArray), .string (⟨#[]⟩ : ByteArray)] 27 (0, 0))) ∧ aa (Below w.heap.size w w'))
 case atStart => exact ⟨((⟨#[]⟩ : ByteArray)), ((⟨#[]⟩ : ByteArray)), (0), f0_, f0_, f0_, H', ⟨Ca _⟩, ⟨by refine kS_ ?_; exact vk F0.o (fun _ hk => hk.2)⟩, ⟨by refine kS_ ?_; exact vk p1.o (fun _ hk => hk.1.2)⟩, ⟨by refine kK_ ?_; exact b0.o⟩, ⟨hS_ n0.o⟩⟩
 clear H'
 obtain ⟨x0, q0, f0, rfl, rfl, rfl, HA, D2, j0, k0, b0, HB⟩ := hrel
 rcases gk with _ | k1
 ·exact absurd HA.o (by simp [bu.l0])
 have H := HA.o
 clear HA
 simp only [bu.l0] at H
 by_cases l1 : f0 < 2
 rotate_left
 ·rw [Ga l1] at H
  have q1 := za l1
  clear l1
  obtain ⟨X1, H⟩ := iN_ H
  have E2 := Aa X1
  have F2 := ya X1
  try have G2 : (9223372036854775807 < x0.size + C0.size) = False := eq_false (Nat.not_lt.2 X1)
  obtain ⟨Y1, H⟩ := iN_ H
  have H2 := Aa Y1
  have I2 := ya Y1
  try have t1 : (9223372036854775807 < q0.size + (x0 ++ C0).size) = False := eq_false (Nat.not_lt.2 Y1)
  try (have y1 : (9223372036854775807 < q0.size + (x0 ++ C0).size) = False := t1; simp only [ByteArray.size_append] at y1)
  obtain ⟨R0, D3, H⟩ := bN_ H
  obtain ⟨Z1, H⟩ := iN_ H
  have J2 := Aa Z1
  have K2 := ya Z1
  try have z1 : (9223372036854775807 < (q0 ++ (x0 ++ C0)).size + R0.size) = False := eq_false (Nat.not_lt.2 Z1)
  try (have A1 : (9223372036854775807 < (q0 ++ (x0 ++ C0)).size + R0.size) = False := z1; simp only [ByteArray.size_append] at A1)
  obtain ⟨b2, H⟩ := iN_ H
  have L2 := Aa b2
  have M2 := ya b2
  try have N2 : (9223372036854775807 < c1.size + 1) = False := eq_false (Nat.not_lt.2 b2)
  obtain ⟨e1, E3, H⟩ := bN_ H
  obtain ⟨f2, H⟩ := iN_ H
  have O2 := Aa f2
  have P2 := ya f2
  try have B1 : (9223372036854775807 < ((q0 ++ (x0 ++ C0)) ++ R0).size + e1.size) = False := eq_false (Nat.not_lt.2 f2)
  try (have C1 : (9223372036854775807 < ((q0 ++ (x0 ++ C0)) ++ R0).size + e1.size) = False := B1; simp only [ByteArray.size_append] at C1)
  simp only [Option.some.injEq, Prod.mk.injEq] at H
  obtain ⟨rfl, rfl, rfl⟩ := H
  go_wp2_with (first | (refine gc_ (k_ 62 Tryz.func18) (bM.calls _ _ _ D3.o (HLD.o.below HLD.o.pos (hS_ n0.o))) fun X3 hb => ?_; obtain ⟨j0, k0, b0, HB⟩ := n_ (fS_ j0) <| n_ (fS_ k0) <| n_ (fK_ b0) <| sB_) | (refine gc_ (k_ 66 Tryz.func18) (bM.calls _ _ _ E3.o (HLD.o.below HLD.o.pos (hS_ n0.o))) fun Q2 hb => ?_; obtain ⟨j0, k0, b0, HB⟩ := n_ (fS_ j0) <| n_ (fS_ k0) <| n_ (fK_ b0) <| sB_; have O1 : Q2.cell? ⟨D0, 0, none⟩ = some (.string (⟨#[]⟩ : ByteArray)) := (ah b0.o 0).trans rfl; have P1 : Q2.cell? ⟨D0, 1, none⟩ = some (.string (⟨#[]⟩ : ByteArray)) := (ah b0.o 1).trans rfl; have Q1 := ae b0.o 0; have R1 := ae b0.o 1))
  refine bodyPost_ret (fJ rfl _ _ D0 27 #[.string (x0 ++ C0), .string (((q0 ++ (x0 ++ C0)) ++ R0) ++ e1)] (0, 0) _ rfl (by refine kK_ ?_; refine bO (cs := #[.string (x0 ++ C0), .string (⟨#[]⟩ : ByteArray)]) ?_ 1 _ rfl; refine kK_ ?_; refine bO (cs := #[.string (⟨#[]⟩ : ByteArray), .string (⟨#[]⟩ : ByteArray)]) ?_ 0 _ rfl; exact rK_ b0.o) Tryz.underlying27 rfl (by kernel_rfl)) rfl ?_
  exact ⟨f1_, hS_ n0.o⟩
 rw [Fa l1] at H
 have q1 := ya l1
 clear l1
 obtain ⟨f1, F3, H⟩ := bN_ H
 obtain ⟨g1, G3, H⟩ := bN_ H
 obtain ⟨R2, H⟩ := iD_ H
 obtain ⟨T2, H⟩ := iD_ H
 obtain ⟨i1, H3, H⟩ := bN_ H
 obtain ⟨j1, I3, H⟩ := bN_ H
 obtain ⟨g2, H⟩ := iN_ H
 have U2 := Aa g2
 have V2 := ya g2
 try have X2 : (9223372036854775807 < x0.size + j1.size) = False := eq_false (Nat.not_lt.2 g2)
 obtain ⟨Y2, H⟩ := iD_ H
 obtain ⟨D1, J3, H⟩ := bN_ H
 obtain ⟨i2, H⟩ := iN_ H
 have Z2 := Aa i2
 have b3 := ya i2
 try have c3 : (9223372036854775807 < q0.size + D1.size) = False := eq_false (Nat.not_lt.2 i2)
 have H' := c_ H
 clear H
 try go_wp2
 obtain ⟨j0, k0, b0, HB⟩ := b_ (vH j0.o) <| b_ (vH k0.o) <| b_ (gK b0.o) <| c_ (bx HB.o)
 obtain ⟨K3, L3, E1⟩ := vs k0.o
 (first | subst E1 | (injection E1 with f1_ f2_ f3_; have f4_ := f1_.symm; have f5_ := f3_.symm; clear f1_ f2_ f3_; subst f4_; subst f5_))
 have U0 : 0 ≤ (f0 : Int) := oD_
 have V0 : f0 < (K0.length : Int) := oD_
 obtain ⟨F1, S0, T0, j2, I0, L0, M0⟩ := kP (ve k0.o).2.2 f0 U0 V0
 cases j2
 obtain ⟨ce416, hce416, hMe416, hcc416⟩ := wK k0.o [] f0 U0 (by first | exact V0 | exact oD_ | (have e_ := (ve k0.o).1; omega))
 obtain ⟨ve416_0, rfl, ge416_0⟩ := hMe416
 have y0 := hcc416 0 _ rfl
 rw [Nat.add_zero, show ((Kd.slice 3 (Kd.int .i64))).sz = 1 from rfl, Nat.mul_one] at y0
 replace y0 := Ba (y0.symm.trans I0)
 rw [y0] at ge416_0
 have d0 := c_ (show Kd.R (Kd.int .i64) 3 _ _ _ _ (dE K0 f0) from ge416_0)
 clear y0 ge416_0
 clear hcc416 hce416
 have e0 := c_ M0
 have W0 := c_ L0
 clear M0 L0
 replace U0 := Aa U0
 replace V0 := Aa V0
 refine ej (n := 14) (S := fun w' => w'.cell? (F1.add (f0).toNat) = some (.slice S0 (dE K0 f0).length T0)) (ds := []) (bb_ 14 0) (by kernel_rfl) rfl rfl (I0) (fun hHeld => ?_); refine cK bu.tab10 bu.bits10 (fun HT_ HW_ => ?_)
 generalize wr.drew = Y3 at j0 k0 b0 HB d0 e0 I0 hHeld ⊢
 refine pT_ 0 33 14 1 ?_
 refine pT_ 1 34 14 3 ?_
 refine pT_ 2 35 14 7 ?_
 refine pT_ 4 37 14 23 ?_
 refine pT_ 6 39 14 87 ?_
 refine pT_ 7 40 14 215 ?_
 refine pT_ 8 41 14 471 ?_
 refine tS_ 9 42 (bb_ 14 983) (bA HT_.o HW_.o (by kernel_rfl)) hHeld ?_
 refine fB (i := 3) (N := some 36) (bb_ 14 991) rfl rfl (cz HT_.o (by kernel_rfl)) (by decide) (fun K hK => ?_)
 refine fj Tryz.func24 (by kernel_rfl) rfl #[.string C0, .int .i64 f0, .bool false] (by rfl) rfl rfl aM_ ?_
 with_reducible refine (bV.calls k1 C0 f0 false f1 _ F3.o).mono ?_
 rintro e Z3 ⟨M3, rfl, J0, hb⟩
 have HS0_ := (hb.cell (World.block_lt_of_cell? _ _ (hHeld))).trans (hHeld)
 refine ⟨_, rfl, ?_⟩
 obtain ⟨j0, k0, d0, r0, b0, e0, HB⟩ := b_ (vd (rS_ j0.o) (vL J0) hb) <| b_ (vd (rS_ k0.o) (vL J0) hb) <| n_ (fR_ d0) <| b_ (vG (vD (vD (vD J0 (wd (rS_ j0.o))) (wd (rS_ k0.o))) (vE (rR_ d0.o))) (au (hS_ n0.o))) <| n_ (fK_ b0) <| n_ (fC_ e0) <| sB_
 obtain ⟨l2, m2, G1⟩ := vs r0.o
 (first | subst G1 | (injection G1 with f1_ f2_ f3_; have f4_ := f1_.symm; have f5_ := f3_.symm; clear f1_ f2_ f3_; subst f4_; subst f5_))
 obtain ⟨n2, p2, H1⟩ := vs j0.o
 (first | subst H1 | (injection H1 with f1_ f2_ f3_; have f4_ := f1_.symm; have f5_ := f3_.symm; clear f1_ f2_ f3_; subst f4_; subst f5_))
 refine hK _ _ (HS0_) (fun hHeld => ?_)
 clear hK K
 refine dH (a' := ?_) ?_ ?_
 rotate_left
 ·show Act.put _ (some 36) _ = _
  simp only [Act.put, List.setIfInBounds_toArray, List.set_cons_zero, List.set_cons_succ, bq, ct]
  rfl
 refine fB (i := 5) (N := some 38) (bb_ 14 1023) rfl rfl (cz HT_.o (by kernel_rfl)) (by decide) (fun K hK => ?_)
 refine fj Tryz.func23 (by kernel_rfl) rfl #[.slice l2 f1.length m2, .slice n2 Q0.length p2] (by rfl) rfl rfl aM_ ?_
 with_reducible refine (bB.calls k1 _ _ f1 _ _ Q0 g1 _ ?side1 ?side2 ?side3 ?side4 G3.o).mono ?_
 (case side1 => exact cR_ (ve r0.o).2.2)
 (case side2 => exact (ve r0.o).2.1)
 (case side3 => exact cR_ (ve j0.o).2.2)
 (case side4 => exact (ve j0.o).2.1)
 rintro e b4 ⟨N3, rfl, J0, hb⟩
 have HS0_ := (hb.cell (World.block_lt_of_cell? _ _ (hHeld))).trans (hHeld)
 refine ⟨_, rfl, ?_⟩
 obtain ⟨j0, k0, d0, r0, v0, b0, e0, HB⟩ := b_ (vd (rS_ j0.o) (vg J0) hb) <| b_ (vd (rS_ k0.o) (vg J0) hb) <| b_ (vj (rR_ d0.o) (vg J0) hb) <| b_ (vd (rS_ r0.o) (vg J0) hb) <| b_ (vb (vp J0 (vE (rR_ d0.o))) (au (hS_ n0.o))) <| n_ (fK_ b0) <| n_ (fC_ e0) <| sB_
 obtain ⟨q2, t2, I1⟩ := uY v0.o
 (first | subst I1 | (injection I1 with f1_ f2_ f3_; have f4_ := f1_.symm; have f5_ := f3_.symm; clear f1_ f2_ f3_; subst f4_; subst f5_))
 refine hK _ _ (HS0_) (fun hHeld => ?_)
 clear hK K
 refine dH (a' := ?_) ?_ ?_
 rotate_left
 ·show Act.put _ (some 38) _ = _
  simp only [Act.put, List.setIfInBounds_toArray, List.set_cons_zero, List.set_cons_succ, bq, ct]
  rfl
 refine fB (i := 10) (N := some 43) (bb_ 14 2047) rfl rfl (cz HT_.o (by kernel_rfl)) (by decide) (fun K hK => ?_)
 refine fj Tryz.func22 (by kernel_rfl) rfl #[.slice q2 g1.length t2, .slice S0 (dE K0 f0).length T0] (by rfl) rfl rfl aM_ ?_
 with_reducible refine (bD.calls k1 _ _ g1 _ _ (dE K0 f0) i1 _ ?side1 ?side2 ?side3 ?side4 H3.o).mono ?_
 (case side1 => exact cR_ (uX v0.o).2.2)
 (case side2 => exact (uX v0.o).2.1)
 (case side3 => repeat (first | exact (by repeat (first | (with_reducible exact e0.o) | (with_reducible refine Kd.C_alloc ?_ _) | (with_reducible refine Kd.C_drewN ?_ _) | (with_reducible refine Kd.C_drew ?_) | exact e0.o)) | (with_reducible refine Kd.C_alloc ?_ _) | (with_reducible refine Kd.C_drewN ?_ _) | (with_reducible refine Kd.C_drew ?_)))
 (case side4 => exact W0.o)
 rintro e e4 ⟨O3, rfl, J0, hb⟩
 have HS0_ := (hb.cell (World.block_lt_of_cell? _ _ (hHeld))).trans (hHeld)
 refine ⟨_, rfl, ?_⟩
 obtain ⟨j0, k0, d0, r0, v0, G0, b0, e0, HB⟩ := b_ (vd (rS_ j0.o) (vg J0) hb) <| b_ (vd (rS_ k0.o) (vg J0) hb) <| b_ (vj (rR_ d0.o) (vg J0) hb) <| b_ (vd (rS_ r0.o) (vg J0) hb) <| b_ (vj (rR_ v0.o) (vg J0) hb) <| b_ (vb (vp (vp J0 (vE (rR_ d0.o))) (vE (rR_ v0.o))) (au (hS_ n0.o))) <| n_ (fK_ b0) <| n_ (fC_ e0) <| sB_
 obtain ⟨v2, y2, J1⟩ := uY G0.o
 (first | subst J1 | (injection J1 with f1_ f2_ f3_; have f4_ := f1_.symm; have f5_ := f3_.symm; clear f1_ f2_ f3_; subst f4_; subst f5_))
 refine hK _ _ (HS0_) (fun hHeld => ?_)
 clear hK K
 refine dH (a' := ?_) ?_ ?_
 rotate_left
 ·show Act.put _ (some 43) _ = _
  simp only [Act.put, List.setIfInBounds_toArray, List.set_cons_zero, List.set_cons_succ, bq, ct]
  rfl
 refine fB (i := 11) (N := some 44) (bb_ 14 4095) rfl rfl (cz HT_.o (by kernel_rfl)) (by decide) (fun K hK => ?_)
 refine fj Tryz.func21 (by kernel_rfl) rfl #[.slice v2 i1.length y2] (by rfl) rfl rfl aM_ ?_
 with_reducible refine (cp.calls k1 _ _ i1 j1 _ ?side1 ?side2 I3.o).mono ?_
 (case side1 => exact cR_ (uX G0.o).2.2)
 (case side2 => exact (uX G0.o).2.1)
 rintro e f4 ⟨rfl, hb⟩
 have HS0_ := (hb.cell (World.block_lt_of_cell? _ _ (hHeld))).trans (hHeld)
 refine ⟨_, rfl, ?_⟩
 obtain ⟨j0, k0, d0, r0, v0, G0, b0, e0, HB⟩ := n_ (fS_ j0) <| n_ (fS_ k0) <| n_ (fR_ d0) <| n_ (fS_ r0) <| n_ (fR_ v0) <| n_ (fR_ G0) <| n_ (fK_ b0) <| n_ (fC_ e0) <| sB_
 refine hK _ _ (HS0_) (fun hHeld => ?_)
 clear hK K
 refine dH (a' := ?_) ?_ ?_
 rotate_left
 ·show Act.put _ (some 44) _ = _
  simp only [Act.put, List.setIfInBounds_toArray, List.set_cons_zero, List.set_cons_succ, bq, ct]
  rfl
 refine pT_ 12 45 14 8191 ?_
 refine pT_ 13 9 14 16383 ?_
 refine fq (dA HT_.o (by kernel_rfl)) ?_
 have X0 : 0 ≤ (f0 : Int) := oD_
 have Y0 : f0 < (Q0.length : Int) := oD_
 obtain ⟨e3, z2, A2, B2, Z0, N0, O0⟩ := kP (ve j0.o).2.2 f0 X0 Y0
 cases B2
 obtain ⟨ce421, hce421, hMe421, hcc421⟩ := wK j0.o [] f0 X0 (by first | exact Y0 | exact oD_ | (have e_ := (ve j0.o).1; omega))
 obtain ⟨ve421_0, rfl, ge421_0⟩ := hMe421
 have B0 := hcc421 0 _ rfl
 rw [Nat.add_zero, show ((Kd.slice 3 (Kd.int .i64))).sz = 1 from rfl, Nat.mul_one] at B0
 replace B0 := Ba (B0.symm.trans Z0)
 rw [B0] at ge421_0
 have P0 := c_ (show Kd.R (Kd.int .i64) 3 _ _ _ _ (dE Q0 f0) from ge421_0)
 clear B0 ge421_0
 clear hcc421 hce421
 have E0 := c_ O0
 have b1 := c_ N0
 clear O0 N0
 replace X0 := Aa X0
 replace Y0 := Aa Y0
 try go_wp2_with (first | (refine gc_ (k_ 51 Tryz.func21) (cp.calls _ _ _ _ _ _ (by repeat (first | exact (by repeat (first | (with_reducible exact E0.o) | (with_reducible refine Kd.C_alloc ?_ _) | (with_reducible refine Kd.C_drewN ?_ _) | (with_reducible refine Kd.C_drew ?_) | exact E0.o)) | (with_reducible refine Kd.C_alloc ?_ _) | (with_reducible refine Kd.C_drewN ?_ _) | (with_reducible refine Kd.C_drew ?_))) b1.o J3.o) fun g4 hb => ?_; obtain ⟨j0, k0, d0, r0, v0, G0, P0, b0, e0, E0, HB⟩ := n_ (fS_ j0) <| n_ (fS_ k0) <| n_ (fR_ d0) <| n_ (fS_ r0) <| n_ (fR_ v0) <| n_ (fR_ G0) <| n_ (fR_ P0) <| n_ (fK_ b0) <| n_ (fC_ e0) <| n_ (fC_ E0) <| sB_))
 go_roundg k1
 case measure => have := D2.o; omega
 case rel => exact ⟨(x0 ++ j1), (q0 ++ D1), (wrap64 (f0 + 1)), f0_, f0_, f0_, H', ⟨by have := D2.o; omega⟩, ⟨by refine kS_ ?_; exact vk j0.o (fun _ hk => hk.1.1.1)⟩, ⟨by refine kS_ ?_; exact vk k0.o (fun _ hk => hk.1.1.1)⟩, ⟨by refine kK_ ?_; exact b0.o⟩, ⟨hS_ n0.o⟩⟩
def ci.f (k : Nat) (a0 : ByteArray) (a1 : ByteArray) : Option (ByteArray × ByteArray × Bool) := (bM.f a0).bind fun t775 => (if a1.size + t775.size ≤ 9223372036854775807 then (if (a1 ++ t775).size + 1 ≤ 9223372036854775807 then ((bM.f ((a1 ++ t775) ++ (⟨#[99]⟩ : ByteArray))).bind fun t776 => ((aE.f k a0 a1 t776).bind fun bt777 => (if bt777.2 = true then ((bM.f ((a1 ++ t775) ++ (⟨#[107]⟩ : ByteArray))).bind fun t779 => (some (bt777.1, t779, true))) else (some ((⟨#[]⟩ : ByteArray), (⟨#[]⟩ : ByteArray), false))))) else (none)) else (none))
theorem ci.mono : ∀ a0 a1 k, LeO (ci.f k a0 a1) (ci.f (k + 1) a0 a1) := by
 intro a0 a1 k
 unfold ci.f
 exact o1_ aE.mono
theorem ci.calls (k : Nat) (a0 : ByteArray) (a1 : ByteArray) (r1 : ByteArray) (r2 : ByteArray) (r3 : Bool) (w : World) (h : ci.f k a0 a1 = some (r1, r2, r3)) (hLD : Laid w) :
  Calls Tryz.prog 9 #[.string a0, .string a1] w fun e w' => e = .returned (.tuple #[.string r1, .string r2, .bool r3]) ∧ Below w.heap.size w w' := by
 have HLD := c_ hLD
 clear hLD
 have HB := c_ (Da w.heap.size w)
 delta ci.f at h
 have H := h
 clear h
 obtain ⟨b0, A3, H⟩ := bN_ H
 obtain ⟨c4, H⟩ := iN_ H
 have j0 := Aa c4
 have k0 := ya c4
 try have n0 : (9223372036854775807 < a1.size + b0.size) = False := eq_false (Nat.not_lt.2 c4)
 obtain ⟨c5, H⟩ := iN_ H
 have p0 := Aa c5
 have q0 := ya c5
 try have d0 : (9223372036854775807 < (a1 ++ b0).size + 1) = False := eq_false (Nat.not_lt.2 c5)
 try (have e0 : (9223372036854775807 < (a1 ++ b0).size + 1) = False := d0; simp only [ByteArray.size_append] at e0)
 obtain ⟨r0, A6, H⟩ := bN_ H
 obtain ⟨⟨v0, f0⟩, A7, H⟩ := bN_ H
 by_cases c8 : f0 = true
 ·subst c8
  replace H := iT_ H
  obtain ⟨x0, A9, H⟩ := bN_ H
  simp only [Option.some.injEq, Prod.mk.injEq] at H
  obtain ⟨rfl, rfl, rfl⟩ := H
  go_enter Tryz.func9, Tryz.ntmps9
  go_wp2_with (first | (refine gb_ (k_ 12 Tryz.func18) (bM.calls _ _ _ A3.o (HLD.o.below HLD.o.pos (hB_))) fun y0 HB => ?_) | (refine gb_ (k_ 19 Tryz.func18) (bM.calls _ _ _ A6.o (HLD.o.below HLD.o.pos (hB_))) fun B0 HB => ?_) | (refine gb_ (k_ 20 Tryz.func32) (aE.calls _ _ _ _ _ _ _ A7.o) fun C0 HB => ?_) | (refine gb_ (k_ 28 Tryz.func18) (bM.calls _ _ _ A9.o (HLD.o.below HLD.o.pos (hB_))) fun D0 HB => ?_))
  go_ret3
  exact ⟨f1_, hB_⟩
 ·replace c8 := Ea c8
  subst c8
  replace H := iF_ H
  simp only [Option.some.injEq, Prod.mk.injEq] at H
  obtain ⟨rfl, rfl, rfl⟩ := H
  go_enter Tryz.func9, Tryz.ntmps9
  go_wp2_with (first | (refine gb_ (k_ 12 Tryz.func18) (bM.calls _ _ _ A3.o (HLD.o.below HLD.o.pos (hB_))) fun E0 HB => ?_) | (refine gb_ (k_ 19 Tryz.func18) (bM.calls _ _ _ A6.o (HLD.o.below HLD.o.pos (hB_))) fun F0 HB => ?_) | (refine gb_ (k_ 20 Tryz.func32) (aE.calls _ _ _ _ _ _ _ A7.o) fun G0 HB => ?_))
  go_ret3
  exact ⟨f1_, hB_⟩
def cM.f (k : Nat) (a0 : ByteArray) (a1 : ByteArray) : Option (ByteArray × Bool) := (ck.f k a0 a1).bind fun bt983 => (if bt983.2 = true then (if 768 ≤ 1568 then (if 1568 ≤ (a0.size : Int) then ((ci.f k (a0.extract 768 1568) bt983.1).bind fun bt985 => (if bt985.2.2 = true then (if bt985.1.toList = a1.toList then (some (bt985.2.1, true)) else (if 1600 ≤ (a0.size : Int) then (if (a0.extract 1600 a0.size).size + a1.size ≤ 9223372036854775807 then ((bM.f ((a0.extract 1600 a0.size) ++ a1)).bind fun t988 => (some (t988, true))) else (none)) else (none))) else (if 1600 ≤ (a0.size : Int) then (if (a0.extract 1600 a0.size).size + a1.size ≤ 9223372036854775807 then ((bM.f ((a0.extract 1600 a0.size) ++ a1)).bind fun t989 => (some (t989, true))) else (none)) else (none)))) else (none)) else (none)) else (some ((⟨#[]⟩ : ByteArray), false)))
theorem cM.mono : ∀ a0 a1 k, LeO (cM.f k a0 a1) (cM.f (k + 1) a0 a1) := by
 intro a0 a1 k
 unfold cM.f
 exact o2_ ck.mono ci.mono
theorem cM.calls (k : Nat) (a0 : ByteArray) (a1 : ByteArray) (r1 : ByteArray) (r2 : Bool) (w : World) (h : cM.f k a0 a1 = some (r1, r2)) (hLD : Laid w) :
  Calls Tryz.prog 13 #[.string a0, .string a1] w fun e w' => e = .returned (.tuple #[.string r1, .bool r2]) ∧ Below w.heap.size w w' := by
 have HLD := c_ hLD
 clear hLD
 have HB := c_ (Da w.heap.size w)
 delta cM.f at h
 have H := h
 clear h
 obtain ⟨⟨H0, d0⟩, A3, H⟩ := bN_ H
 by_cases c4 : d0 = true
 ·subst c4
  replace H := iT_ H
  obtain ⟨c5, H⟩ := iN_ H
  have I0 := Aa c5
  have J0 := ya c5
  clear c5
  obtain ⟨c6, H⟩ := iN_ H
  have K0 := Aa c6
  have L0 := ya c6
  clear c6
  obtain ⟨⟨b0, M0, e0⟩, A7, H⟩ := bN_ H
  by_cases c8 : e0 = true
  ·subst c8
   replace H := iT_ H
   by_cases c9 : b0.toList = a1.toList
   ·rw [Fa c9] at H
    have f0 : (b0.toList == a1.toList) = true := beq_iff_eq.mpr c9
    have j0 : (b0.toList != a1.toList) = false := bne_eq_false_iff_eq.mpr c9
    clear c9
    simp only [Option.some.injEq, Prod.mk.injEq] at H
    obtain ⟨rfl, rfl⟩ := H
    go_enter Tryz.func13, Tryz.ntmps13
    go_wp2_with (first | (refine gb_ (k_ 14 Tryz.func12) (ck.calls _ _ _ _ _ _ A3.o) fun R0 HB => ?_) | (refine gb_ (k_ 23 Tryz.func9) (ci.calls _ _ _ _ _ _ _ A7.o (HLD.o.below HLD.o.pos (hB_))) fun S0 HB => ?_))
    go_ret2
    exact ⟨f1_, hB_⟩
   rw [Ga c9] at H
   have f0 : (b0.toList == a1.toList) = false := beq_eq_false_iff_ne.mpr c9
   have j0 : (b0.toList != a1.toList) = true := bne_iff_ne.mpr c9
   obtain ⟨k0, H⟩ := iN_ H
   have r0 := Aa k0
   have v0 := ya k0
   clear k0
   obtain ⟨n0, H⟩ := iN_ H
   have x0 := Aa n0
   have y0 := ya n0
   try have B0 : (9223372036854775807 < (a0.extract 1600 a0.size).size + a1.size) = False := eq_false (Nat.not_lt.2 n0)
   obtain ⟨N0, O0, H⟩ := bN_ H
   simp only [Option.some.injEq, Prod.mk.injEq] at H
   obtain ⟨rfl, rfl⟩ := H
   go_enter Tryz.func13, Tryz.ntmps13
   go_wp2_with (first | (refine gb_ (k_ 14 Tryz.func12) (ck.calls _ _ _ _ _ _ A3.o) fun T0 HB => ?_) | (refine gb_ (k_ 23 Tryz.func9) (ci.calls _ _ _ _ _ _ _ A7.o (HLD.o.below HLD.o.pos (hB_))) fun U0 HB => ?_) | (refine gb_ (k_ 38 Tryz.func18) (bM.calls _ _ _ O0.o (HLD.o.below HLD.o.pos (hB_))) fun V0 HB => ?_))
   go_ret2
   exact ⟨f1_, hB_⟩
  ·replace c8 := Ea c8
   subst c8
   replace H := iF_ H
   obtain ⟨p0, H⟩ := iN_ H
   have C0 := Aa p0
   have D0 := ya p0
   clear p0
   obtain ⟨q0, H⟩ := iN_ H
   have E0 := Aa q0
   have F0 := ya q0
   try have G0 : (9223372036854775807 < (a0.extract 1600 a0.size).size + a1.size) = False := eq_false (Nat.not_lt.2 q0)
   obtain ⟨P0, Q0, H⟩ := bN_ H
   simp only [Option.some.injEq, Prod.mk.injEq] at H
   obtain ⟨rfl, rfl⟩ := H
   go_enter Tryz.func13, Tryz.ntmps13
   go_wp2_with (first | (refine gb_ (k_ 14 Tryz.func12) (ck.calls _ _ _ _ _ _ A3.o) fun W0 HB => ?_) | (refine gb_ (k_ 23 Tryz.func9) (ci.calls _ _ _ _ _ _ _ A7.o (HLD.o.below HLD.o.pos (hB_))) fun X0 HB => ?_) | (refine gb_ (k_ 38 Tryz.func18) (bM.calls _ _ _ Q0.o (HLD.o.below HLD.o.pos (hB_))) fun Y0 HB => ?_))
   go_ret2
   exact ⟨f1_, hB_⟩
 ·replace c4 := Ea c4
  subst c4
  replace H := iF_ H
  simp only [Option.some.injEq, Prod.mk.injEq] at H
  obtain ⟨rfl, rfl⟩ := H
  go_enter Tryz.func13, Tryz.ntmps13
  go_wp2_with (first | (refine gb_ (k_ 14 Tryz.func12) (ck.calls _ _ _ _ _ _ A3.o) fun Z0 HB => ?_))
  go_ret2
  exact ⟨f1_, hB_⟩
end Go.Proofs.YtmdlpmddljbkeaaGreatDoor.P
