-- printed texts of this session, regrouped
import Derived.Lib.SliceRun
import Derived.Test.YtmdlpmddljbkeaaGreatDoorMWB
import Derived.Test.YtmdlpmddljbkeaaGreatDoorPx5
namespace Go.Proofs.YtmdlpmddljbkeaaGreatDoor.P
open Go.RowKit YtmdlpmddljbkeaaGreatDoorW.PrintWords YtmdlpmddljbkeaaGreatDoorW.PrintLast YtmdlpmddljbkeaaGreatDoorW.PrintMore
open Kd
attribute [local go_sem] d3 dW eG eI dD dC dZ dY
set_option linter.unusedVariables false
set_option linter.unusedSimpArgs false
set_option maxHeartbeats 8000000
set_option maxRecDepth 100000
theorem ag.cell_setCell_drewN (w : World) (n : Nat) (a b : Addr) (v : Value) : ((w.drewN n).setCell a v).cell? b = (w.setCell a v).cell? b := rfl
theorem ag.frozen_setCell (w : World) (a b : Addr) (v : Value) : (w.setCell a v).frozen? b = w.frozen? b := World.frozen?_setCell w a b v
attribute [local go_sem] ag.cell_setCell_drewN
mutual
def ag.l0 : Nat → List Int → Int → Int → Option (List Int)
 | 0, _, _, _ => none
 | k + 1, x3, x4, x5 => if x5 ≤ 128 then (ag.l1 k x3 x4 x5 0) else (ag.l3 k x3 (x3.length : Int) 0)
def ag.l1 : Nat → List Int → Int → Int → Int → Option (List Int)
 | 0, _, _, _, _ => none
 | k + 1, x3, x4, x5, x6 => if x6 < 256 then ((bz.f k x4).bind fun t710 => ((bF.f k 17 t710).bind fun t711 => (ag.l2 k x3 (wrap64 (x4 - 1)) x5 x6 t711 x6))) else (ag.l0 k x3 x4 (wrap64 (x5 * 2)))
def ag.l2 : Nat → List Int → Int → Int → Int → Int → Int → Option (List Int)
 | 0, _, _, _, _, _, _ => none
 | k + 1, x3, x4, x5, x6, x7, x8 => if x8 < (wrap64 (x6 + x5)) then (if 0 ≤ x8 then (if x8 < (x3.length : Int) then (if 0 ≤ (wrap64 (x8 + x5)) then (if (wrap64 (x8 + x5)) < (x3.length : Int) then ((cd.f (wrap64 ((rd x3 x8) + (rd x3 (wrap64 (x8 + x5)))))).bind fun t714 => ((cd.f (wrap64 (x7 * (wrap64 ((rd x3 (wrap64 (x8 + x5))) - (rd x3 x8)))))).bind fun t716 => (ag.l2 k ((x3.set (x8 : Int).toNat t714).set ((wrap64 (x8 + x5)) : Int).toNat t716) x4 x5 x6 x7 (wrap64 (x8 + 1))))) else (none)) else (none)) else (none)) else (none)) else (ag.l1 k x3 x4 x5 (wrap64 (x6 + (wrap64 (2 * x5)))))
def ag.l3 : Nat → List Int → Int → Int → Option (List Int)
 | 0, _, _, _ => none
 | k + 1, x3, x72, x73 => if x73 < x72 then (if 0 ≤ x73 then (if x73 < (x3.length : Int) then ((cd.f (wrap64 ((rd x3 x73) * 3303))).bind fun t720 => (ag.l3 k (x3.set (x73 : Int).toNat t720) x72 (wrap64 (x73 + 1)))) else (none)) else (none)) else (some x3)
end
def ag.f (k : Nat) (l0 : List Int) : Option (List Int) := (ap.f k l0).bind fun t706 => (if t706 = true then ((dx.f l0).bind fun t707 => (ag.l0 k t707 127 2)) else (some ([] : List Int)))
theorem ag.mono_l : ∀ k, (∀ y0 y1 y2, LeO (ag.l0 k y0 y1 y2) (ag.l0 (k + 1) y0 y1 y2)) ∧ (∀ y0 y1 y2 y3, LeO (ag.l1 k y0 y1 y2 y3) (ag.l1 (k + 1) y0 y1 y2 y3)) ∧ (∀ y0 y1 y2 y3 y4 y5, LeO (ag.l2 k y0 y1 y2 y3 y4 y5) (ag.l2 (k + 1) y0 y1 y2 y3 y4 y5)) ∧ (∀ y0 y1 y2, LeO (ag.l3 k y0 y1 y2) (ag.l3 (k + 1) y0 y1 y2))
 | 0 => ⟨fun _ _ _ r h => by simp [ag.l0] at h, fun _ _ _ _ r h => by simp [ag.l1] at h, fun _ _ _ _ _ _ r h => by simp [ag.l2] at h, fun _ _ _ r h => by simp [ag.l3] at h⟩
 | k + 1 => by
  obtain ⟨ih0, ih1, ih2, ih3⟩ := ag.mono_l k
  refine ⟨?_, ?_, ?_, ?_⟩ <;> (intros; (first | unfold ag.l0 | unfold ag.l1 | unfold ag.l2 | unfold ag.l3); exact o7_ ih0 ih1 ih2 ih3 ap.mono bF.mono bz.mono)
theorem ag.mono : ∀ a0 k, LeO (ag.f k a0) (ag.f (k + 1) a0) := by
 intro a0 k
 obtain ⟨ih0, ih1, ih2, ih3⟩ := ag.mono_l k
 unfold ag.f
 exact o7_ ih0 ih1 ih2 ih3 ap.mono bF.mono bz.mono
def ag.T17 : Bool × List (List Nat × List Nat) := (true, [([], []), ([], []), ([], []), ([], []), ([], []), ([3, 4], [3, 4]), ([], []), ([], []), ([], []), ([], []), ([8, 9], [8, 9]), ([7, 10], [7, 10]), ([11], [11]), ([6, 12], [6, 12]), ([13], [13]), ([], []), ([], []), ([], []), ([], []), ([17, 18], [17, 18]), ([16, 19], [16, 19]), ([20], [20]), ([], []), ([21, 22], [21, 22]), ([15, 23], [15, 23]), ([24, 14], [24]), ([0, 1, 0, 1, 6, 7, 8, 9, 10, 11, 12, 13, 14, 21, 25], [0, 1]), ([26, 14, 25, 0, 1, 6, 7, 8, 9, 10, 11, 12, 13, 14, 21, 25], [14, 26]), ([2, 5, 0, 1, 2, 3, 4, 5, 6, 7, 8, 9, 10, 11, 12, 13, 14, 15, 16, 17, 18, 19, 20, 21, 22, 23, 24, 25, 26, 27], [2, 5]), ([28, 25, 27, 0, 1, 2, 3, 4, 5, 6, 7, 8, 9, 10, 11, 12, 13, 14, 15, 16, 17, 18, 19, 20, 21, 22, 23, 24, 25, 26, 27], [25, 28])])
def ag.B17 : List Nat := [0, 0, 0, 0, 0, 24, 0, 0, 0, 0, 768, 1920, 3968, 8128, 16320, 0, 0, 0, 0, 393216, 983040, 2031616, 0, 8323072, 16744448, 33554368, 67108803, 134217667, 268435455, 536870911]
theorem ag.tab17 : eu .any (fu Tryz.f65 17) = ag.T17 := by kernel_rfl
theorem ag.bits17 : dd ag.T17.2 ag.B17 = true := by kernel_rfl
theorem ag.calls (k : Nat) (A0 : Option Addr) (c0 : Nat) (l0 : List Int) (r : List Int) (w : World) (hr0 : Kd.C (Kd.int .i64) w A0 l0.length l0) (hc0 : l0.length ≤ c0) (h : ag.f k l0 = some r) :
  Calls Tryz.prog 65 #[.slice A0 l0.length c0] w fun e w' => ∃ g2 : Value, e = .returned (g2) ∧ Kd.R (Kd.int .i64) 3 w' w.heap.size (fun _ => True) g2 r ∧ Below w.heap.size w w' := by
 have B1 := c_ hr0
 have C1 := c_ hc0
 clear hr0 hc0
 have HB := c_ (Da w.heap.size w)
 delta ag.f at h
 have H := h
 clear h
 obtain ⟨D1, A2, H⟩ := bN_ H
 by_cases c3 : D1 = true
 ·subst c3
  replace H := iT_ H
  obtain ⟨E1, A4, H⟩ := bN_ H
  have H' := c_ H
  clear H
  go_enter Tryz.func65, Tryz.ntmps65
  go_wp2_with (first | (refine gp_ (k_ 12 Tryz.func51) (ap.calls _ _ _ _ _ _ (cR_ B1.o) C1.o A2.o) fun nd => ?_) | (refine gR_ (k_ 15 Tryz.func86) (dx.calls _ _ _ _ _ (cR_ B1.o) C1.o A4.o) fun L0 w5 ho_ hb => ?_; obtain ⟨Z0, HB⟩ := n_ (lR_ ho_) <| sB_))
  go_loopg [4, 5] k (fun kq v4 v5 w' => ∃ (r0 : List Int) (G0 : Int) (k0 : Int), v4 = .int .i64 G0 ∧ v5 = .int .i64 k0 ∧ aa (ag.l0 kq r0 G0 k0 = some r) ∧ aa (kq ≤ k) ∧ aa (Kd.R (Kd.int .i64) 3 w' w.heap.size (fun _ => True) L0 r0) ∧ aa (Below w.heap.size w w'))
  case atStart => exact ⟨(E1), (127), (2), f0_, f0_, H', ⟨Ca _⟩, ⟨rR_ Z0.o⟩, ⟨hB_⟩⟩
  clear H'
  obtain ⟨r0, G0, k0, rfl, rfl, HA, K0, a0, HB⟩ := hrel
  rcases gk with _ | k1
  ·exact absurd HA.o (by simp [ag.l0])
  have H := HA.o
  clear HA
  simp only [ag.l0] at H
  by_cases c6 : k0 ≤ 128
  rotate_left
  ·rw [Ga c6] at H
   have F1 := za c6
   clear c6
   have H' := c_ H
   clear H
   obtain ⟨G1, b1, H1⟩ := uY a0.o
   subst H1
   go_wp2
   go_loopg [73] k1 (fun kq t2 w' => ∃ (j0 : List Int) (b0 : Int), t2 = .int .i64 b0 ∧ aa (ag.l3 kq j0 (r0.length : Int) b0 = some r) ∧ aa (kq ≤ k1) ∧ aa (Kd.R (Kd.int .i64) 3 w' w.heap.size (fun _ => True) (.slice G1 r0.length b1) j0) ∧ aa (Below w.heap.size w w'))
   case atStart => exact ⟨(r0), (0), f0_, H', ⟨Ca _⟩, ⟨rR_ a0.o⟩, ⟨hB_⟩⟩
   clear H'
   obtain ⟨j0, b0, rfl, HA, H0, a0, HB⟩ := hrel
   have n0 := (uX a0.o).1
   rw [n0] at a0
   (try simp only [n0])
   rcases gk with _ | k2
   ·exact absurd HA.o (by simp [ag.l3])
   have H := HA.o
   clear HA
   simp only [ag.l3] at H
   by_cases X0 : b0 < (r0.length : Int)
   rotate_left
   ·rw [Ga X0] at H
    have F0 := za X0
    (try simp only [n0] at F0)
    clear X0
    obtain rfl := Ba H
    go_wp2
    go_ret
    exact ⟨_, f1_, rR_ a0.o, hB_⟩
   rw [Fa X0] at H
   have F0 := ya X0
   (try simp only [n0] at F0)
   clear X0
   obtain ⟨i2, H⟩ := iD_ H
   obtain ⟨j2, H⟩ := iN_ H
   have c1 := ya j2
   (try simp only [n0] at c1)
   clear j2
   obtain ⟨e1, v2, H⟩ := bN_ H
   obtain ⟨I1, y0⟩ : ∃ y_ : List Int, y_ = (j0.set (b0 : Int).toNat e1) := ⟨_, rfl⟩
   first | replace H := yb_ y0 H | rw [← y0] at H
   have f1 := c_ y0
   clear y0
   have H' := c_ H
   clear H
   have M0 : 0 ≤ (b0 : Int) := oD_
   have N0 : b0 < (j0.length : Int) := oD_
   obtain ⟨g1, J1, I0⟩ := uZ (uX a0.o).2.2 b0 M0 N0
   cases J1
   replace M0 := Aa M0
   replace N0 := Aa N0
   go_wp2_with (first | (refine gp_ (k_ 83 Tryz.func89) (cd.calls _ _ _ v2.o) fun nd => ?_; (try (rw [dh wr]; generalize hq_ : World.drewN wr _ = wr; obtain ⟨a0, HB⟩ := b_ (show Kd.R (Kd.int .i64) 3 wr w.heap.size (fun _ => True) (.slice (some g1) j0.length b1) j0 from by rw [← hq_]; exact (rR_ a0.o)) <| c_ (show Below w.heap.size w wr from by rw [← hq_]; exact (hB_)))); have K1 : 0 ≤ (b0 : Int) := oD_; have L1 : (b0 : Int) < ((j0.length : Int) : Int) := oD_; obtain ⟨go29, y2, i1, j1, gl29, cl29, HG29⟩ := vq a0.o (by omega); (first | cases i1 | (injection i1 with ea_ en_ ec_; (first | subst ea_ | (injection ea_ with ea_; subst ea_)); subst ec_; clear en_)); have M1 := c_ j1; have GG29 := c_ HG29; clear j1 gl29 HG29; (first | simp only [cj] at I0 | skip); obtain ⟨N1, hf29_0⟩ := vc 0 a0.o (b0 : Int) K1 L1; replace K1 := Aa K1; replace L1 := Aa L1; obtain ⟨m2, hz30_⟩ := vc 0 a0.o (b0 : Int) oD_ oD_; have HP30 := vm a0.o (b0 : Int) e1) | ((refine cx (t := 3) (p := 84) rfl ?_); refine st_ 3 84 HP30 f1 M1 fun G2 hw hp_ hg HBn => ?_; obtain ⟨a0, HB⟩ := b_ (hp_) <| c_ HBn.o; clear hg hw hp_))
   (try simp only [← n0])
   go_roundg k2
   case measure => have := K0.o; have := H0.o; omega
   case rel => exact ⟨(I1), (wrap64 (b0 + 1)), f0_, H', ⟨by have := K0.o; have := H0.o; omega⟩, ⟨by (try simp only [n0]); refine kR_ ?_; exact a0.o⟩, ⟨hB_⟩⟩
  rw [Fa c6] at H
  have F1 := ya c6
  clear c6
  have H' := c_ H
  clear H
  go_wp2
  go_loopg [4, 6] k1 (fun kq v4 v6 w' => ∃ (j0 : List Int) (E0 : Int) (v0 : Int), v4 = .int .i64 E0 ∧ v6 = .int .i64 v0 ∧ aa (ag.l1 kq j0 E0 k0 v0 = some r) ∧ aa (kq ≤ k1) ∧ aa (Kd.R (Kd.int .i64) 3 w' w.heap.size (fun _ => True) L0 j0) ∧ aa (Below w.heap.size w w'))
  case atStart => exact ⟨(r0), (G0), (0), f0_, f0_, H', ⟨Ca _⟩, ⟨rR_ a0.o⟩, ⟨hB_⟩⟩
  clear H'
  obtain ⟨j0, E0, v0, rfl, rfl, HA, H0, a0, HB⟩ := hrel
  rcases gk with _ | k2
  ·exact absurd HA.o (by simp [ag.l1])
  have H := HA.o
  clear HA
  simp only [ag.l1] at H
  by_cases c7 : v0 < 256
  rotate_left
  ·rw [Ga c7] at H
   have O1 := za c7
   clear c7
   have H' := c_ H
   clear H
   go_wp2
   go_roundg k2
   case measure => have := K0.o; have := H0.o; omega
   case rel => exact ⟨(j0), (E0), (wrap64 (k0 * 2)), f0_, f0_, H', ⟨by have := K0.o; have := H0.o; omega⟩, ⟨rR_ a0.o⟩, ⟨hB_⟩⟩
  rw [Fa c7] at H
  have O1 := ya c7
  clear c7
  obtain ⟨z2, A8, H⟩ := bN_ H
  obtain ⟨O0, A9, H⟩ := bN_ H
  have H' := c_ H
  clear H
  go_wp2_with (first | (refine gp_ (k_ 27 Tryz.func88) (bz.calls _ _ _ _ A8.o) fun nd => ?_) | (refine gp_ (k_ 28 Tryz.func87) (bF.calls _ _ _ _ _ A9.o) fun nd => ?_))
  go_loopg [8] k2 (fun kq v8 w' => ∃ (d0 : List Int) (f0 : Int), v8 = .int .i64 f0 ∧ aa (ag.l2 kq d0 (wrap64 (E0 - 1)) k0 v0 O0 f0 = some r) ∧ aa (kq ≤ k2) ∧ aa (Kd.R (Kd.int .i64) 3 w' w.heap.size (fun _ => True) L0 d0) ∧ aa (Below w.heap.size w w'))
  case atStart => exact ⟨(j0), (v0), f0_, H', ⟨Ca _⟩, ⟨rR_ a0.o⟩, ⟨hB_⟩⟩
  clear H'
  obtain ⟨d0, f0, rfl, HA, A1, a0, HB⟩ := hrel
  rcases gk with _ | k3
  ·exact absurd HA.o (by simp [ag.l2])
  have H := HA.o
  clear HA
  simp only [ag.l2] at H
  by_cases Y0 : f0 < (wrap64 (v0 + k0))
  rotate_left
  ·rw [Ga Y0] at H
   have m1 := za Y0
   clear Y0
   have H' := c_ H
   clear H
   go_wp2
   go_roundg k3
   case measure => have := K0.o; have := H0.o; have := A1.o; omega
   case rel => exact ⟨(d0), ((wrap64 (E0 - 1))), (wrap64 (v0 + (wrap64 (2 * k0)))), f0_, f0_, H', ⟨by have := K0.o; have := H0.o; have := A1.o; omega⟩, ⟨rR_ a0.o⟩, ⟨hB_⟩⟩
  rw [Fa Y0] at H
  have m1 := ya Y0
  clear Y0
  obtain ⟨n2, H⟩ := iD_ H
  obtain ⟨p2, H⟩ := iD_ H
  obtain ⟨e0, x0⟩ : ∃ j_ : Int, (wrap64 (f0 + k0)) = j_ := ⟨_, rfl⟩
  first | rw [x0] at H | simp only [x0] at H
  have P1 : (IntKind.i64.wrap (f0 + k0)) = e0 := (bq _).trans x0
  obtain ⟨q2, H⟩ := iD_ H
  obtain ⟨r2, H⟩ := iD_ H
  obtain ⟨P0, B2, H⟩ := bN_ H
  obtain ⟨Q0, C2, H⟩ := bN_ H
  obtain ⟨Q1, B0⟩ : ∃ y_ : List Int, y_ = (d0.set (f0 : Int).toNat P0) := ⟨_, rfl⟩
  first | replace H := yb_ B0 H | rw [← B0] at H
  have n1 := c_ B0
  clear B0
  obtain ⟨R1, C0⟩ : ∃ y_ : List Int, y_ = (Q1.set ((e0) : Int).toNat Q0) := ⟨_, rfl⟩
  first | replace H := yb_ C0 H | rw [← C0] at H
  have p1 := c_ C0
  clear C0
  have H' := c_ H
  clear H
  obtain ⟨D2, E2, S1⟩ := uY a0.o
  subst S1
  have R0 : 0 ≤ (f0 : Int) := oD_
  have S0 : f0 < (d0.length : Int) := oD_
  obtain ⟨D0, T1, J0⟩ := uZ (uX a0.o).2.2 f0 R0 S0
  cases T1
  replace R0 := Aa R0
  replace S0 := Aa S0
  try go_wp2
  obtain ⟨a0, HB⟩ := b_ (vl a0.o) <| c_ (bx HB.o)
  have T0 : 0 ≤ ((e0) : Int) := oD_
  have U0 : (e0) < (d0.length : Int) := oD_
  obtain ⟨q1, U1, p0⟩ := uZ (uX a0.o).2.2 (e0) T0 U0
  obtain rfl : D0 = q1 := (by injection U1)
  replace T0 := Aa T0
  replace U0 := Aa U0
  have V0 : 0 ≤ ((e0) : Int) := oD_
  have W0 : (e0) < (d0.length : Int) := oD_
  obtain ⟨r1, V1, q0⟩ := uZ (uX a0.o).2.2 (e0) V0 W0
  obtain rfl : D0 = r1 := (by injection V1)
  replace V0 := Aa V0
  replace W0 := Aa W0
  refine ej (n := 30) (S := fun w' => w'.cell? (D0.add ((e0)).toNat) = some (.int .i64 (rd d0 (e0))) ∧ w'.cell? (D0.add ((e0)).toNat) = some (.int .i64 (rd d0 (e0)))) (ds := [27, 29]) (bb_ 30 0) (by kernel_rfl) rfl rfl ⟨p0, q0⟩ (fun hHeld => ?_); refine cK ag.tab17 ag.bits17 (fun HT_ HW_ => ?_)
  generalize wr.drew = H2 at a0 HB p0 q0 hHeld ⊢
  refine pT_ 0 43 30 1 ?_
  refine pT_ 1 44 30 3 ?_
  refine pT_ 2 45 30 7 ?_
  refine pT_ 3 46 30 15 ?_
  refine pT_ 4 47 30 31 ?_
  refine pT_ 5 48 30 63 ?_
  refine pT_ 6 49 30 127 ?_
  refine pT_ 7 50 30 255 ?_
  refine pT_ 8 51 30 511 ?_
  refine pT_ 9 52 30 1023 ?_
  refine pT_ 10 53 30 2047 ?_
  refine pT_ 11 54 30 4095 ?_
  refine pT_ 15 58 30 36863 ?_
  refine pT_ 16 59 30 102399 ?_
  refine pT_ 17 60 30 233471 ?_
  refine pT_ 18 61 30 495615 ?_
  refine pT_ 19 62 30 1019903 ?_
  refine pT_ 20 63 30 2068479 ?_
  refine pT_ 22 65 30 6262783 ?_
  refine tS_ 12 55 (bb_ 30 6266879) (bA HT_.o HW_.o (by kernel_rfl)) hHeld ?_
  refine pT_ 13 56 30 6275071 ?_
  refine tS_ 21 64 (bb_ 30 8372223) (bA HT_.o HW_.o (by kernel_rfl)) hHeld ?_
  refine pT_ 23 66 30 16760831 ?_
  refine pT_ 24 67 30 33538047 ?_
  refine fB (i := 14) (N := some 57) (bb_ 30 33554431) rfl rfl (cz HT_.o (by kernel_rfl)) (by decide) (fun K hK => ?_)
  refine fj Tryz.func89 (by kernel_rfl) rfl #[.int .i64 (wrap64 ((rd d0 f0) + (rd d0 (e0))))] (by rfl) rfl rfl (by (try simp only [List.map_toArray, List.map_cons, List.map_nil]); first | done | (simp only [x0]; rfl) | rfl | (simp only [List.length_drop, List.length_take]; rfl)) ?_
  with_reducible refine (cd.calls (wrap64 ((rd d0 f0) + (rd d0 (e0)))) P0 _ B2.o).mono ?_
  rintro e w' ⟨rfl, ⟨nd, rfl⟩⟩
  refine ⟨_, rfl, ?_⟩
  refine hK _ _ ⟨hHeld.1, hHeld.2⟩ (fun hHeld => ?_)
  clear hK K
  refine dH (a' := ?_) ?_ ?_
  rotate_left
  ·show Act.put _ (some 57) _ = _
   simp only [Act.put, List.setIfInBounds_toArray, List.set_cons_zero, List.set_cons_succ, bq, ct]
   rfl
  refine fB (i := 25) (N := some 68) (bb_ 30 67108863) rfl rfl (cz HT_.o (by kernel_rfl)) (by decide) (fun K hK => ?_)
  refine fj Tryz.func89 (by kernel_rfl) rfl #[.int .i64 (wrap64 (O0 * (wrap64 ((rd d0 (e0)) - (rd d0 f0)))))] (by rfl) rfl rfl (by (try simp only [List.map_toArray, List.map_cons, List.map_nil]); first | done | (simp only [x0]; rfl) | rfl | (simp only [List.length_drop, List.length_take]; rfl)) ?_
  with_reducible refine (cd.calls (wrap64 (O0 * (wrap64 ((rd d0 (e0)) - (rd d0 f0))))) Q0 _ C2.o).mono ?_
  rintro e w' ⟨rfl, ⟨nd, rfl⟩⟩
  refine ⟨_, rfl, ?_⟩
  have X1 : 0 ≤ (f0 : Int) := oD_
  have Y1 : (f0 : Int) < ((d0.length : Int) : Int) := oD_
  obtain ⟨go18, F2, t1, y1, gl18, cl18, HG18⟩ := vq a0.o (by omega)
  (first | cases t1 | (injection t1 with ea_ en_ ec_; (first | subst ea_ | (injection ea_ with ea_; subst ea_)); subst ec_; clear en_))
  have z1 := c_ y1
  have GG18 := c_ HG18
  clear y1 gl18 HG18
  (first | simp only [cj] at J0 | skip)
  (first | simp only [cj] at p0 | skip)
  (first | simp only [cj] at q0 | skip)
  obtain ⟨Z1, hf18_0⟩ := vc 0 a0.o (f0 : Int) X1 Y1
  replace X1 := Aa X1
  replace Y1 := Aa Y1
  have HP22 := vI a0.o (f0 : Int) P0
  rw [← n1.o] at HP22
  have HQ22 := c_ HP22
  clear HP22
  have b2 : 0 ≤ ((e0) : Int) := oD_
  have c2 : ((e0) : Int) < ((d0.length : Int) : Int) := oD_
  obtain ⟨f2, hf19_0⟩ := vc 0 HQ22.o ((e0) : Int) b2 c2
  (first | simp only [ag.frozen_setCell] at hf19_0 | skip)
  replace b2 := Aa b2
  replace c2 := Aa c2
  have HP23 := vI HQ22.o ((e0) : Int) Q0
  rw [← p1.o] at HP23
  have HQ23 := c_ HP23
  clear HP23
  refine hK _ _ ⟨hHeld.1, hHeld.2⟩ (fun hHeld => ?_)
  clear hK K
  refine dH (a' := ?_) ?_ ?_
  rotate_left
  ·show Act.put _ (some 68) _ = _
   simp only [Act.put, List.setIfInBounds_toArray, List.set_cons_zero, List.set_cons_succ, bq, ct]
   rfl
  refine pT_ 26 69 30 134217727 ?_
  refine gR (i := 27) (N := none) (bb_ 30 268435455) rfl rfl (cz HT_.o (by kernel_rfl)) (by decide) (fun K hK => ?_)
  refine jb (w1 := ?_) (by rfl) rfl ?_ ?_
  rotate_left
  ·go_simp
   rfl
  refine hK _ _ ?_
  clear hK K
  refine pT_ 28 70 30 536870911 ?_
  refine gR (i := 29) (N := none) (bb_ 30 1073741823) rfl rfl (cz HT_.o (by kernel_rfl)) (by decide) (fun K hK => ?_)
  refine jb (w1 := ?_) (by rfl) rfl ?_ ?_
  rotate_left
  ·go_simp
   rfl
  refine hK _ _ ?_
  clear hK K
  refine fq (dA HT_.o (by kernel_rfl)) ?_
  try go_wp2
  go_roundg k3
  case measure => have := K0.o; have := H0.o; have := A1.o; omega
  case rel => exact ⟨(R1), (wrap64 (f0 + 1)), f0_, H', ⟨by have := K0.o; have := H0.o; have := A1.o; omega⟩, ⟨rR_ HQ23.o⟩, ⟨(u2_ z1.o z1.o)⟩⟩
 ·replace c3 := Ea c3
  subst c3
  replace H := iF_ H
  obtain rfl := Ba H
  go_enter Tryz.func65, Tryz.ntmps65
  go_wp2_with (first | (refine gp_ (k_ 12 Tryz.func51) (ap.calls _ _ _ _ _ _ (cR_ B1.o) C1.o A2.o) fun nd => ?_))
  go_ret
  exact ⟨_, f1_, by first | exact vB _ _ _ _ _ | exact Kd.N_nil _ _ _ _ _ | exact Kd.V_nil _ _ _ _ _ | exact Kd.Q_nil _ _ _ _ _ | exact vC _ _ _ _ _, hB_⟩
def ba.l0 : Nat → Int → List Int → List Int → Int → Int → Option (List Int)
 | 0, _, _, _, _, _ => none
 | k + 1, x1, x5, x8, x9, x10 => if x10 < x9 then (if 0 ≤ x10 then (if x10 < (x8.length : Int) then ((dI.f (rd x8 x10) x1).bind fun t781 => (if x5.length < 17592186044416 then (ba.l0 k x1 (x5 ++ [t781]) x8 x9 (wrap64 (x10 + 1))) else (none))) else (none)) else (none)) else (some x5)
def ba.f (k : Nat) (l0 : List Int) (a1 : Int) : Option (List Int) := ba.l0 k a1 ([] : List Int) l0 (l0.length : Int) 0
theorem ba.mono_l : ∀ k, (∀ y0 y1 y2 y3 y4, LeO (ba.l0 k y0 y1 y2 y3 y4) (ba.l0 (k + 1) y0 y1 y2 y3 y4))
 | 0 => fun _ _ _ _ _ r h => by simp [ba.l0] at h
 | k + 1 => by
  have ih0 := ba.mono_l k
  intros; unfold ba.l0; exact o1_ ih0
theorem ba.mono : ∀ a0 a1 k, LeO (ba.f k a0 a1) (ba.f (k + 1) a0 a1) := by
 intro a0 a1 k
 have ih0 := ba.mono_l k
 unfold ba.f
 exact o1_ ih0
theorem ba.calls (k : Nat) (A0 : Option Addr) (c0 : Nat) (l0 : List Int) (a1 : Int) (r : List Int) (w : World) (hr0 : Kd.C (Kd.int .i64) w A0 l0.length l0) (hc0 : l0.length ≤ c0) (h : ba.f k l0 a1 = some r) :
  Calls Tryz.prog 67 #[.slice A0 l0.length c0, .int .i64 a1] w fun e w' => ∃ B0 : Value, e = .returned (B0) ∧ Kd.R (Kd.int .i64) 3 w' w.heap.size (fun _ => True) B0 r ∧ Below w.heap.size w w' := by
 have E0 := c_ hr0
 have J0 := c_ hc0
 clear hr0 hc0
 have HB := c_ (Da w.heap.size w)
 delta ba.f at h
 have H := h
 clear h
 have H' := c_ H
 clear H
 go_enter Tryz.func67, Tryz.ntmps67
 go_wp2
 go_loopg [5, 10] k (fun kq v5 F0 w' => ∃ (e0 : List Int) (a0 : Int), F0 = .int .i64 a0 ∧ aa (ba.l0 kq a1 e0 l0 (l0.length : Int) a0 = some r) ∧ aa (kq ≤ k) ∧ aa (Kd.R (Kd.int .i64) 3 w' w.heap.size (fun _ => True) v5 e0) ∧ aa (Below w.heap.size w w'))
 case atStart => exact ⟨(([] : List Int)), (0), f0_, H', ⟨Ca _⟩, ⟨by first | exact vB _ _ _ _ _ | exact Kd.N_nil _ _ _ _ _ | exact Kd.V_nil _ _ _ _ _ | exact Kd.Q_nil _ _ _ _ _ | exact vC _ _ _ _ _⟩, ⟨hB_⟩⟩
 clear H'
 obtain ⟨e0, a0, rfl, HA, C0, k0, HB⟩ := hrel
 rcases gk with _ | k1
 ·exact absurd HA.o (by simp [ba.l0])
 have H := HA.o
 clear HA
 simp only [ba.l0] at H
 by_cases c3 : a0 < (l0.length : Int)
 rotate_left
 ·rw [Ga c3] at H
  have q0 := za c3
  clear c3
  obtain rfl := Ba H
  go_wp2
  go_ret
  exact ⟨_, f1_, rR_ k0.o, hB_⟩
 rw [Fa c3] at H
 have q0 := ya c3
 clear c3
 obtain ⟨G0, H⟩ := iD_ H
 obtain ⟨H0, H⟩ := iD_ H
 obtain ⟨r0, A6, H⟩ := bN_ H
 obtain ⟨c7, H⟩ := iN_ H
 have v0 := c_ c7
 clear c7
 obtain ⟨x0, b0⟩ : ∃ y_ : List Int, y_ = (e0 ++ [r0]) := ⟨_, rfl⟩
 first | replace H := yb_ b0 H | rw [← b0] at H
 have n0 := c_ b0
 clear b0
 have H' := c_ H
 clear H
 have f0 : 0 ≤ (a0 : Int) := oD_
 have j0 : a0 < (l0.length : Int) := oD_
 obtain ⟨D0, y0, d0⟩ := uZ E0.o a0 f0 j0
 cases y0
 replace d0 := hc_ d0
 replace f0 := Aa f0
 replace j0 := Aa j0
 go_wp2_with (first | (refine gp_ (k_ 17 Tryz.func69) (dI.calls _ _ _ _ A6.o) fun nd => ?_) | (refine ga_ 14 18 ?_; at_builtin; refine ap_ k0 n0 v0 Tryz.underlying45 df fun I0 w8 p0 HB hg hat => ?_))
 go_roundg k1
 case measure => have := C0.o; omega
 case rel => exact ⟨(x0), (wrap64 (a0 + 1)), f0_, H', ⟨by have := C0.o; omega⟩, ⟨rR_ p0.o⟩, ⟨hB_⟩⟩
def eo.f (a0 : Int) (a1 : Int) : Option (Int) := some (wrap64 (a0 - a1))
theorem eo.calls (a0 : Int) (a1 : Int) (r : Int) (w : World) (h : eo.f a0 a1 = some r) :
  Calls Tryz.prog 99 #[.int .i64 a0, .int .i64 a1] w fun e w' => e = .returned (.int .i64 r) ∧ cr w w' := by
 delta eo.f at h
 have H := h
 clear h
 obtain rfl := Ba H
 go_enter Tryz.func99, Tryz.ntmps99
 go_wp2
 go_ret
 exact ⟨f0_, d0_⟩
mutual
def af.j0 : Nat → List Int → List Int → Bool → Option (List Int)
 | 0, _, _, _ => none
 | k + 1, x0, x1, x16 => if x16 = true then (some ([] : List Int)) else (if 256 ≤ 35184372088832 then ((some (List.replicate 256 0 : List Int)).bind fun y787 => (af.l0 k x0 x1 y787 (y787.length : Int) 0)) else (none))
def af.l0 : Nat → List Int → List Int → List Int → Int → Int → Option (List Int)
 | 0, _, _, _, _, _ => none
 | k + 1, x0, x1, x7, x19, x20 => if x20 < x19 then (if 0 ≤ x20 then (if x20 < (x0.length : Int) then (if x20 < (x1.length : Int) then ((eo.f (rd x0 x20) (rd x1 x20)).bind fun t792 => ((cd.f t792).bind fun t793 => (if x20 < (x7.length : Int) then (af.l0 k x0 x1 (x7.set (x20 : Int).toNat t793) x19 (wrap64 (x20 + 1))) else (none)))) else (none)) else (none)) else (none)) else (some x7)
end
def af.f (k : Nat) (l0 : List Int) (l1 : List Int) : Option (List Int) := (ap.f k l0).bind fun t785 => (if t785 = true then ((ap.f k l1).bind fun t786 => (af.j0 k l0 l1 (!t786))) else (af.j0 k l0 l1 true))
theorem af.mono_l : ∀ k, (∀ y0 y1 y2, LeO (af.j0 k y0 y1 y2) (af.j0 (k + 1) y0 y1 y2)) ∧ (∀ y0 y1 y2 y3 y4, LeO (af.l0 k y0 y1 y2 y3 y4) (af.l0 (k + 1) y0 y1 y2 y3 y4))
 | 0 => ⟨fun _ _ _ r h => by simp [af.j0] at h, fun _ _ _ _ _ r h => by simp [af.l0] at h⟩
 | k + 1 => by
  obtain ⟨ih0, ih1⟩ := af.mono_l k
  refine ⟨?_, ?_⟩ <;> (intros; (first | unfold af.j0 | unfold af.l0); exact o3_ ih0 ih1 ap.mono)
theorem af.mono : ∀ a0 a1 k, LeO (af.f k a0 a1) (af.f (k + 1) a0 a1) := by
 intro a0 a1 k
 obtain ⟨ih0, ih1⟩ := af.mono_l k
 unfold af.f
 exact o3_ ih0 ih1 ap.mono
def af.T7 : Bool × List (List Nat × List Nat) := (true, [([], []), ([], []), ([], []), ([], []), ([], []), ([3, 4], [3, 4]), ([5], [5]), ([], []), ([], []), ([7, 8], [7, 8]), ([9], [9]), ([2, 6, 10], [2, 6, 10]), ([11, 11], [11]), ([0, 1, 0, 1, 2, 3, 4, 5, 6, 7, 8, 9, 10, 11, 12], [0, 1]), ([13, 12, 12, 0, 1, 2, 3, 4, 5, 6, 7, 8, 9, 10, 11, 12], [12, 13])])
def af.B7 : List Nat := [0, 0, 0, 0, 0, 24, 56, 0, 0, 384, 896, 2044, 4092, 8191, 16383]
theorem af.tab7 : eu .any (fu Tryz.f52 7) = af.T7 := by kernel_rfl
theorem af.bits7 : dd af.T7.2 af.B7 = true := by kernel_rfl
theorem af.calls (k : Nat) (A0 : Option Addr) (c0 : Nat) (l0 : List Int) (A1 : Option Addr) (c1 : Nat) (l1 : List Int) (r : List Int) (w : World) (hr0 : Kd.C (Kd.int .i64) w A0 l0.length l0) (hc0 : l0.length ≤ c0) (hr1 : Kd.C (Kd.int .i64) w A1 l1.length l1) (hc1 : l1.length ≤ c1) (h : af.f k l0 l1 = some r) :
  Calls Tryz.prog 52 #[.slice A0 l0.length c0, .slice A1 l1.length c1, .func (.func 99) #[] #[]] w fun e w' => ∃ n1 : Value, e = .returned (n1) ∧ Kd.R (Kd.int .i64) 3 w' w.heap.size (fun _ => True) n1 r ∧ Below w.heap.size w w' := by
 have T0 := c_ hr0
 have p1 := c_ hc0
 clear hr0 hc0
 have q1 := c_ hr1
 have E1 := c_ hc1
 clear hr1 hc1
 have HB := c_ (Da w.heap.size w)
 delta af.f at h
 have H := h
 clear h
 have U0 := c_ H
 clear H
 go_enter Tryz.func52, Tryz.ntmps52
 go_upto_region 1 with (fail)
 go_cut [16] (fun F1 wc => ∃ (kq : Nat) (p0 : Bool), F1 = .bool p0 ∧ aa (af.j0 kq l0 l1 p0 = some r) ∧ aa (kq ≤ k) ∧ aa (Below w.heap.size w wc))
 case first =>
  have H := U0.o
  clear U0
  obtain ⟨V0, A4, H⟩ := bN_ H
  by_cases c5 : V0 = true
  ·subst c5
   replace H := iT_ H
   obtain ⟨W0, A6, H⟩ := bN_ H
   have H' := c_ H
   clear H
   go_wp2_with (first | (refine gp_ (k_ 10 Tryz.func51) (ap.calls _ _ _ _ _ _ (cR_ (vf T0.o HB.o)) p1.o A4.o) fun nd => ?_) | (go_at_call 51; refine mp_ (ap.calls _ _ _ _ _ _ (cR_ (vf q1.o (hB_))) E1.o A6.o) fun nd => ?_))
   go_meet
   case rel => exact ⟨_, (!W0), f0_, H', ⟨by first | omega | exact Ca _⟩, ⟨hB_⟩⟩
  ·replace c5 := Ea c5
   subst c5
   replace H := iF_ H
   have H' := c_ H
   clear H
   go_wp2_with (first | (refine gp_ (k_ 10 Tryz.func51) (ap.calls _ _ _ _ _ _ (cR_ (vf T0.o HB.o)) p1.o A4.o) fun nd => ?_))
   go_meet
   case rel => exact ⟨_, (true), f0_, H', ⟨by first | omega | exact Ca _⟩, ⟨hB_⟩⟩
 clear U0
 obtain ⟨kq, p0, rfl, HA, r1, HB⟩ := hcut
 rcases kq with _ | t1
 ·exact absurd HA.o (by simp [af.j0])
 have H := HA.o
 clear HA
 simp only [af.j0] at H
 by_cases c7 : p0 = true
 ·subst c7
  replace H := iT_ H
  obtain rfl := Ba H
  go_wp2
  go_ret
  exact ⟨_, f1_, by first | exact vB _ _ _ _ _ | exact Kd.N_nil _ _ _ _ _ | exact Kd.V_nil _ _ _ _ _ | exact Kd.Q_nil _ _ _ _ _ | exact vC _ _ _ _ _, hB_⟩
 ·replace c7 := Ea c7
  subst c7
  replace H := iF_ H
  obtain ⟨c8, H⟩ := iN_ H
  have G1 := Aa c8
  have H1 := ya c8
  clear c8
  obtain ⟨B0, q0⟩ : ∃ y_ : List Int, y_ = (List.replicate 256 0) := ⟨_, rfl⟩
  first | replace H := yb_ q0 H | rw [← q0] at H
  have C0 := c_ q0
  clear q0
  have H' := c_ H
  clear H
  go_wp2_with (first | ((refine cO (N := 17) rfl ?_); refine vu (Kd.int .i64) _ 3 rfl (N := 17) rfl 45 _ _ rfl 256 rfl rfl Tryz.underlying45 (.int .i64 0) 8 df rfl (by decide) (by omega) 0 (ok := fun _ => True) (okp := fun _ => True) rfl (fun _ hk => hk) trivial (by omega) (by omega) (Da _ _) (Ca _) ?_; intro I1 w9 v0 hb hg_ hnew_; clear hg_ hnew_; (first | rw [← C0.o] at v0 | (simp only [Int.reduceToNat] at v0; rw [← C0.o] at v0)); obtain ⟨D0, HB⟩ := b_ (vb v0 (au (hB_))) <| sB_; clear hb v0; obtain ⟨X0, Y0, Z0⟩ := uY D0.o; subst Z0))
  go_loopg [20] t1 (fun kq J1 w' => ∃ (x0 : List Int) (a0 : Int), J1 = .int .i64 a0 ∧ aa (af.l0 kq l0 l1 x0 (B0.length : Int) a0 = some r) ∧ aa (kq ≤ t1) ∧ aa (Kd.R (Kd.int .i64) 3 w' w.heap.size (fun _ => True) (.slice X0 B0.length Y0) x0) ∧ aa (Below w.heap.size w w'))
  case atStart => exact ⟨(B0), (0), f0_, H', ⟨Ca _⟩, ⟨rR_ D0.o⟩, ⟨hB_⟩⟩
  clear H'
  obtain ⟨x0, a0, rfl, HA, y1, f0, HB⟩ := hrel
  have b0 := (uX f0.o).1
  rw [b0] at f0
  (try simp only [b0])
  rcases gk with _ | k2
  ·exact absurd HA.o (by simp [af.l0])
  have H := HA.o
  clear HA
  simp only [af.l0] at H
  by_cases K0 : a0 < (B0.length : Int)
  rotate_left
  ·rw [Ga K0] at H
   have y0 := za K0
   (try simp only [b0] at y0)
   clear K0
   obtain rfl := Ba H
   go_wp2
   go_ret
   exact ⟨_, f1_, rR_ f0.o, hB_⟩
  rw [Fa K0] at H
  have y0 := ya K0
  (try simp only [b0] at y0)
  clear K0
  obtain ⟨z1, H⟩ := iD_ H
  obtain ⟨B1, H⟩ := iN_ H
  have L0 := ya B1
  (try simp only [b0] at L0)
  clear B1
  obtain ⟨C1, H⟩ := iN_ H
  have M0 := ya C1
  (try simp only [b0] at M0)
  clear C1
  obtain ⟨E0, K1, H⟩ := bN_ H
  obtain ⟨F0, L1, H⟩ := bN_ H
  obtain ⟨D1, H⟩ := iN_ H
  have N0 := ya D1
  (try simp only [b0] at N0)
  clear D1
  obtain ⟨b1, r0⟩ : ∃ y_ : List Int, y_ = (x0.set (a0 : Int).toNat F0) := ⟨_, rfl⟩
  first | replace H := yb_ r0 H | rw [← r0] at H
  have O0 := c_ r0
  clear r0
  have H' := c_ H
  clear H
  try go_wp2
  obtain ⟨f0, HB⟩ := b_ (vl f0.o) <| c_ (bx HB.o)
  have G0 : 0 ≤ (a0 : Int) := oD_
  have H0 : a0 < (l0.length : Int) := oD_
  obtain ⟨P0, e1, d0⟩ := uZ T0.o a0 G0 H0
  have k0 := d0
  cases e1
  replace d0 := hc_ d0
  replace G0 := Aa G0
  replace H0 := Aa H0
  have I0 : 0 ≤ (a0 : Int) := oD_
  have J0 : a0 < (l1.length : Int) := oD_
  obtain ⟨Q0, f1, e0⟩ := uZ q1.o a0 I0 J0
  have n0 := e0
  cases f1
  replace e0 := hc_ e0
  replace I0 := Aa I0
  replace J0 := Aa J0
  refine ej (n := 15) (S := fun w' => w'.cell? (P0.add (a0).toNat) = some (.int .i64 (rd l0 a0)) ∧ w'.cell? (Q0.add (a0).toNat) = some (.int .i64 (rd l1 a0))) (ds := [14]) (bb_ 15 0) (by kernel_rfl) rfl rfl ⟨(hc_ k0), (hc_ n0)⟩ (fun hHeld => ?_); refine cK af.tab7 af.bits7 (fun HT_ HW_ => ?_)
  generalize wr.drew = N1 at f0 HB d0 e0 hHeld ⊢
  refine pT_ 0 23 15 1 ?_
  refine pT_ 1 24 15 3 ?_
  refine pT_ 2 25 15 7 ?_
  refine pT_ 3 26 15 15 ?_
  refine pT_ 4 27 15 31 ?_
  refine pT_ 5 28 15 63 ?_
  refine pT_ 7 30 15 191 ?_
  refine pT_ 8 31 15 447 ?_
  refine pT_ 9 32 15 959 ?_
  refine tS_ 6 29 (bb_ 15 1023) (bA HT_.o HW_.o (by kernel_rfl)) hHeld ?_
  refine tS_ 10 33 (bb_ 15 2047) (bA HT_.o HW_.o (by kernel_rfl)) hHeld ?_
  refine fB (i := 11) (N := some 34) (bb_ 15 4095) rfl rfl (cz HT_.o (by kernel_rfl)) (by decide) (fun K hK => ?_)
  refine Go.Proofs.YtmdlpmddljbkeaaGreatDoor.Kit.goesW_ (.tmp 25) Tryz.func99 (by kernel_rfl) rfl #[.int .i64 (rd l0 a0), .int .i64 (rd l1 a0)] (by rfl) rfl rfl aM_ (by first | rfl | (simp; done)) ?_
  with_reducible refine (eo.calls (rd l0 a0) (rd l1 a0) E0 _ K1.o).mono ?_
  rintro e w' ⟨rfl, ⟨nd, rfl⟩⟩
  refine ⟨_, rfl, ?_⟩
  refine hK _ _ ⟨(hc_ k0), (hc_ n0)⟩ (fun hHeld => ?_)
  clear hK K
  refine dH (a' := ?_) ?_ ?_
  rotate_left
  ·show Act.put _ (some 34) _ = _
   simp only [Act.put, List.setIfInBounds_toArray, List.set_cons_zero, List.set_cons_succ, bq, ct]
   rfl
  refine fB (i := 12) (N := some 35) (bb_ 15 8191) rfl rfl (cz HT_.o (by kernel_rfl)) (by decide) (fun K hK => ?_)
  refine fj Tryz.func89 (by kernel_rfl) rfl #[.int .i64 E0] (by rfl) rfl rfl aM_ ?_
  with_reducible refine (cd.calls E0 F0 _ L1.o).mono ?_
  rintro e w' ⟨rfl, ⟨nd, rfl⟩⟩
  refine ⟨_, rfl, ?_⟩
  have g1 : 0 ≤ (a0 : Int) := oD_
  have i1 : (a0 : Int) < ((x0.length : Int) : Int) := oD_
  obtain ⟨go19, M1, R0, S0, gl19, cl19, HG19⟩ := vq f0.o (by omega)
  (first | cases R0 | (injection R0 with ea_ en_ ec_; (first | subst ea_ | (injection ea_ with ea_; subst ea_)); subst ec_; clear en_))
  have j1 := c_ S0
  have GG19 := c_ HG19
  clear S0 gl19 HG19
  obtain ⟨m1, hf19_0⟩ := vc 0 f0.o (a0 : Int) g1 i1
  replace g1 := Aa g1
  replace i1 := Aa i1
  have HP21 := vI f0.o (a0 : Int) F0
  rw [← O0.o] at HP21
  have HQ21 := c_ HP21
  clear HP21
  refine hK _ _ ⟨(hc_ k0), (hc_ n0)⟩ (fun hHeld => ?_)
  clear hK K
  refine dH (a' := ?_) ?_ ?_
  rotate_left
  ·show Act.put _ (some 35) _ = _
   simp only [Act.put, List.setIfInBounds_toArray, List.set_cons_zero, List.set_cons_succ, bq, ct]
   rfl
  refine pT_ 13 36 15 16383 ?_
  refine gR (i := 14) (N := none) (bb_ 15 32767) rfl rfl (cz HT_.o (by kernel_rfl)) (by decide) (fun K hK => ?_)
  refine jb (w1 := ?_) (by rfl) rfl ?_ ?_
  rotate_left
  ·go_simp
   rfl
  refine hK _ _ ?_
  clear hK K
  refine fq (dA HT_.o (by kernel_rfl)) ?_
  try go_wp2
  (try simp only [← b0])
  go_roundg k2
  case measure => have := r1.o; have := y1.o; omega
  case rel => exact ⟨(b1), (wrap64 (a0 + 1)), f0_, H', ⟨by have := r1.o; have := y1.o; omega⟩, ⟨by (try simp only [b0]); refine kR_ ?_; exact HQ21.o⟩, ⟨hS_ j1.o⟩⟩
theorem af.len_l : ∀ k (l0 l1 x r : List Int) (n i : Int), af.l0 k l0 l1 x n i = some r → r.length = x.length
 | 0, _, _, _, _, _, _, h => by simp [af.l0] at h
 | k + 1, l0, l1, x, r, n, i, h => by
  simp only [af.l0] at h
  split at h
  ·split at h
   ·split at h
    ·split at h
     ·obtain ⟨a, ha, h⟩ := Option.bind_eq_some_iff.mp h
      obtain ⟨b, hb, h⟩ := Option.bind_eq_some_iff.mp h
      split at h
      ·have := af.len_l k _ _ _ _ _ _ h
       rw [List.length_set] at this
       exact this
      ·exact absurd h (by simp)
     ·exact absurd h (by simp)
    ·exact absurd h (by simp)
   ·exact absurd h (by simp)
  ·obtain rfl := Ba h
   rfl
theorem af.calls_nil (k : Nat) (A0 : Option Addr) (c0 : Nat) (l0 : List Int) (A1 : Option Addr) (c1 : Nat) (l1 : List Int) (w : World) (hr0 : Kd.C (Kd.int .i64) w A0 l0.length l0) (hc0 : l0.length ≤ c0) (hr1 : Kd.C (Kd.int .i64) w A1 l1.length l1) (hc1 : l1.length ≤ c1) (h : af.f k l0 l1 = some ([] : List Int)) :
  Calls Tryz.prog 52 #[.slice A0 l0.length c0, .slice A1 l1.length c1, .func (.func 99) #[] #[]] w fun e w' => e = .returned (.slice none 0 0) ∧ Below w.heap.size w w' := by
 have n0 := c_ hr0
 have p0 := c_ hc0
 clear hr0 hc0
 have q0 := c_ hr1
 have r0 := c_ hc1
 clear hr1 hc1
 have HB := c_ (Da w.heap.size w)
 delta af.f at h
 have H := h
 clear h
 have e0 := c_ H
 clear H
 go_enter Tryz.func52, Tryz.ntmps52
 go_upto_region 1 with (fail)
 go_cut [16] (fun v0 wc => ∃ (kq : Nat) (a0 : Bool), v0 = .bool a0 ∧ aa (af.j0 kq l0 l1 a0 = some ([] : List Int)) ∧ aa (kq ≤ k) ∧ aa (Below w.heap.size w wc))
 case first =>
  have H := e0.o
  clear e0
  obtain ⟨f0, A4, H⟩ := bN_ H
  by_cases c5 : f0 = true
  ·subst c5
   replace H := iT_ H
   obtain ⟨k0, A6, H⟩ := bN_ H
   have H' := c_ H
   clear H
   go_wp2_with (first | (refine gp_ (k_ 10 Tryz.func51) (ap.calls _ _ _ _ _ _ (cR_ (vf n0.o HB.o)) p0.o A4.o) fun nd => ?_) | (go_at_call 51; refine mp_ (ap.calls _ _ _ _ _ _ (cR_ (vf q0.o (hB_))) r0.o A6.o) fun nd => ?_))
   go_meet
   case rel => exact ⟨_, (!k0), f0_, H', ⟨by first | omega | exact Ca _⟩, ⟨hB_⟩⟩
  ·replace c5 := Ea c5
   subst c5
   replace H := iF_ H
   have H' := c_ H
   clear H
   go_wp2_with (first | (refine gp_ (k_ 10 Tryz.func51) (ap.calls _ _ _ _ _ _ (cR_ (vf n0.o HB.o)) p0.o A4.o) fun nd => ?_))
   go_meet
   case rel => exact ⟨_, (true), f0_, H', ⟨by first | omega | exact Ca _⟩, ⟨hB_⟩⟩
 clear e0
 obtain ⟨kq, a0, rfl, HA, C0, HB⟩ := hcut
 rcases kq with _ | D0
 ·exact absurd HA.o (by simp [af.j0])
 have H := HA.o
 clear HA
 simp only [af.j0] at H
 by_cases c7 : a0 = true
 ·subst c7
  have H1 : (some ([] : List Int)) = some [] := rfl
  clear H
  have H := H1
  clear H1
  clear H
  go_wp2
  go_ret
  exact ⟨by first | rfl | (simp; done), hB_⟩
 ·replace c7 := Ea c7
  subst c7
  replace H := iF_ H
  obtain ⟨c8, H⟩ := iN_ H
  have x0 := Aa c8
  have y0 := ya c8
  clear c8
  obtain ⟨B0, b0⟩ : ∃ y_ : List Int, y_ = (List.replicate 256 0) := ⟨_, rfl⟩
  first | replace H := yb_ b0 H | rw [← b0] at H
  have d0 := c_ b0
  clear b0
  have H' := c_ H
  clear H
  exact absurd (af.len_l _ _ _ _ _ _ _ H'.o) (by rw [d0.o, List.length_replicate]; decide)
def b9.f (k : Nat) (l0 : List Int) (l1 : List Int) : Option (List Int) := (af.f k l0 l1).bind fun t795 => (some t795)
theorem b9.mono : ∀ a0 a1 k, LeO (b9.f k a0 a1) (b9.f (k + 1) a0 a1) := by
 intro a0 a1 k
 unfold b9.f
 exact o1_ af.mono
theorem b9.calls (k : Nat) (A0 : Option Addr) (c0 : Nat) (l0 : List Int) (A1 : Option Addr) (c1 : Nat) (l1 : List Int) (r : List Int) (w : World) (hr0 : Kd.C (Kd.int .i64) w A0 l0.length l0) (hc0 : l0.length ≤ c0) (hr1 : Kd.C (Kd.int .i64) w A1 l1.length l1) (hc1 : l1.length ≤ c1) (h : b9.f k l0 l1 = some r) :
  Calls Tryz.prog 68 #[.slice A0 l0.length c0, .slice A1 l1.length c1] w fun e w' => ∃ b0 : Value, e = .returned (b0) ∧ Kd.R (Kd.int .i64) 3 w' w.heap.size (fun _ => True) b0 r ∧ Below w.heap.size w w' := by
 have d0 := c_ hr0
 have e0 := c_ hc0
 clear hr0 hc0
 have f0 := c_ hr1
 have j0 := c_ hc1
 clear hr1 hc1
 have HB := c_ (Da w.heap.size w)
 delta b9.f at h
 have H := h
 clear h
 obtain ⟨k0, A3, H⟩ := bN_ H
 obtain rfl := Ba H
 go_enter Tryz.func68, Tryz.ntmps68
 go_wp2_with (first | (refine gR_ (k_ 7 Tryz.func52) (af.calls _ _ _ _ _ _ _ _ _ (cR_ d0.o) e0.o (cR_ f0.o) j0.o A3.o) fun n0 w4 ho_ hb => ?_; obtain ⟨a0, HB⟩ := n_ (lR_ ho_) <| sB_))
 go_ret
 exact ⟨_, f1_, rR_ a0.o, hB_⟩
theorem b9.calls_nil (k : Nat) (A0 : Option Addr) (c0 : Nat) (l0 : List Int) (A1 : Option Addr) (c1 : Nat) (l1 : List Int) (w : World) (hr0 : Kd.C (Kd.int .i64) w A0 l0.length l0) (hc0 : l0.length ≤ c0) (hr1 : Kd.C (Kd.int .i64) w A1 l1.length l1) (hc1 : l1.length ≤ c1) (h : b9.f k l0 l1 = some ([] : List Int)) :
  Calls Tryz.prog 68 #[.slice A0 l0.length c0, .slice A1 l1.length c1] w fun e w' => e = .returned (.slice none 0 0) ∧ Below w.heap.size w w' := by
 have a0 := c_ hr0
 have b0 := c_ hc0
 clear hr0 hc0
 have d0 := c_ hr1
 have e0 := c_ hc1
 clear hr1 hc1
 have HB := c_ (Da w.heap.size w)
 delta b9.f at h
 have H := h
 clear h
 obtain ⟨f0, A3, H⟩ := bN_ H
 obtain e_ := Ba H
 subst e_
 clear H
 go_enter Tryz.func68, Tryz.ntmps68
 go_wp2_with (first | (refine gq_ 52 (some 7) Tryz.func52 #[.slice A0 l0.length c0, .slice A1 l1.length c1, .func (.func 99) #[] #[]] (af.calls_nil k _ _ l0 _ _ l1 _ ?side1 ?side2 ?side3 ?side4 A3.o) ?_; (case side1 => exact cR_ a0.o); (case side2 => exact b0.o); (case side3 => exact cR_ d0.o); (case side4 => exact e0.o); rintro e w4 ⟨rfl, hb⟩; refine ⟨_, rfl, ?_⟩; have n1_ := c_ (dF (hB_) hb); replace HB := n1_; clear n1_; (try clear j0)))
 go_ret
 exact ⟨f1_, hB_⟩
mutual
def aW.j0 : Nat → ByteArray → ByteArray → Bool → Option (List Int × Bool)
 | 0, _, _, _ => none
 | k + 1, x0, x1, x21 => if x21 = true then (some (([] : List Int), false)) else ((bg.f k x0).bind fun bt798 => (if bt798.2 = true then (aW.l0 k x1 bt798.1 ([] : List (List Int)) 0) else (some (([] : List Int), false))))
def aW.l0 : Nat → ByteArray → List (List Int) → List (List Int) → Int → Option (List Int × Bool)
 | 0, _, _, _, _ => none
 | k + 1, x1, x6, x8, x29 => if x29 < 2 then (if 0 ≤ (wrap64 (x29 * 320)) then (if (wrap64 (x29 * 320)) ≤ (wrap64 ((wrap64 (x29 + 1)) * 320)) then (if (wrap64 ((wrap64 (x29 + 1)) * 320)) ≤ (x1.size : Int) then ((ar.f k (x1.extract ((wrap64 (x29 * 320)) : Int).toNat ((wrap64 ((wrap64 (x29 + 1)) * 320)) : Int).toNat) 10 256).bind fun bt802 => ((ba.f k bt802.1 10).bind fun t806 => ((aI.f k t806).bind fun t809 => (if x8.length < 5864062014805 then (aW.l0 k x1 x6 (x8 ++ [t809]) (wrap64 (x29 + 1))) else (none))))) else (none)) else (none)) else (none)) else (if 640 ≤ (x1.size : Int) then ((ar.f k (x1.extract 640 x1.size) 4 256).bind fun bt815 => ((ba.f k bt815.1 4).bind fun t819 => ((bB.f k x6 x8).bind fun t822 => ((ag.f k t822).bind fun t825 => ((b9.f k t819 t825).bind fun t828 => (some (t828, true))))))) else (none))
end
def aW.f (k : Nat) (a0 : ByteArray) (a1 : ByteArray) : Option (List Int × Bool) := if (a0.size : Int) = 1632 then (aW.j0 k a0 a1 ((a1.size : Int) != 768)) else (aW.j0 k a0 a1 true)
theorem aW.mono_l : ∀ k, (∀ y0 y1 y2, LeO (aW.j0 k y0 y1 y2) (aW.j0 (k + 1) y0 y1 y2)) ∧ (∀ y0 y1 y2 y3, LeO (aW.l0 k y0 y1 y2 y3) (aW.l0 (k + 1) y0 y1 y2 y3))
 | 0 => ⟨fun _ _ _ r h => by simp [aW.j0] at h, fun _ _ _ _ r h => by simp [aW.l0] at h⟩
 | k + 1 => by
  obtain ⟨ih0, ih1⟩ := aW.mono_l k
  refine ⟨?_, ?_⟩ <;> (intros; (first | unfold aW.j0 | unfold aW.l0); exact o9_ ih0 ih1 ag.mono aI.mono b9.mono ar.mono bB.mono bg.mono ba.mono)
theorem aW.mono : ∀ a0 a1 k, LeO (aW.f k a0 a1) (aW.f (k + 1) a0 a1) := by
 intro a0 a1 k
 obtain ⟨ih0, ih1⟩ := aW.mono_l k
 unfold aW.f
 exact o9_ ih0 ih1 ag.mono aI.mono b9.mono ar.mono bB.mono bg.mono ba.mono
theorem aW.calls (k : Nat) (a0 : ByteArray) (a1 : ByteArray) (r1 : List Int) (r2 : Bool) (w : World) (h : aW.f k a0 a1 = some (r1, r2)) :
  Calls Tryz.prog 33 #[.string a0, .string a1] w fun e w' => ∃ z1 : Value, e = .returned (.tuple #[z1, .bool r2]) ∧ Kd.R (Kd.int .i64) 3 w' w.heap.size (fun _ => True) z1 r1 ∧ Below w.heap.size w w' := by
 have HB := c_ (Da w.heap.size w)
 delta aW.f at h
 have H := h
 clear h
 have V0 := c_ H
 clear H
 go_enter Tryz.func33, Tryz.ntmps33
 go_upto_region 1 with (fail)
 go_cut [21] (fun O1 wc => ∃ (kq : Nat) (v0 : Bool), O1 = .bool v0 ∧ aa (aW.j0 kq a0 a1 v0 = some (r1, r2)) ∧ aa (kq ≤ k) ∧ aa (Below w.heap.size w wc))
 case first =>
  have H := V0.o
  clear V0
  by_cases c4 : (a0.size : Int) = 1632
  ·rw [Fa c4] at H
   have C0 : ((a0.size : Int) == 1632) = true := beq_iff_eq.mpr c4
   have W0 : ((a0.size : Int) != 1632) = false := bne_eq_false_iff_eq.mpr c4
   clear c4
   (first | rw [C0] | (simp only [bq, ct]; rw [C0]) | skip)
   have H' := c_ H
   clear H
   go_wp2
   go_meet
   case rel => exact ⟨_, (((a1.size : Int) != 768)), f0_, H', ⟨by first | omega | exact Ca _⟩, ⟨hB_⟩⟩
  rw [Ga c4] at H
  have C0 : ((a0.size : Int) == 1632) = false := beq_eq_false_iff_ne.mpr c4
  have W0 : ((a0.size : Int) != 1632) = true := bne_iff_ne.mpr c4
  (first | rw [C0] | (simp only [bq, ct]; rw [C0]) | skip)
  have H' := c_ H
  clear H
  go_wp2
  go_meet
  case rel => exact ⟨_, (true), f0_, H', ⟨by first | omega | exact Ca _⟩, ⟨hB_⟩⟩
 clear V0
 obtain ⟨kq, v0, rfl, HA, A1, HB⟩ := hcut
 rcases kq with _ | B1
 ·exact absurd HA.o (by simp [aW.j0])
 have H := HA.o
 clear HA
 simp only [aW.j0] at H
 by_cases c5 : v0 = true
 ·subst c5
  replace H := iT_ H
  simp only [Option.some.injEq, Prod.mk.injEq] at H
  obtain ⟨rfl, rfl⟩ := H
  go_wp2
  go_ret2
  exact ⟨_, f1_, by first | exact vB _ _ _ _ _ | exact Kd.N_nil _ _ _ _ _ | exact Kd.V_nil _ _ _ _ _ | exact Kd.Q_nil _ _ _ _ _ | exact vC _ _ _ _ _, hB_⟩
 ·replace c5 := Ea c5
  subst c5
  replace H := iF_ H
  obtain ⟨⟨Q0, X0⟩, A6, H⟩ := bN_ H
  by_cases c7 : X0 = true
  ·subst c7
   replace H := iT_ H
   have H' := c_ H
   clear H
   go_wp2_with (first | (refine gR_ (k_ 24 Tryz.func31) (bg.calls _ _ _ _ _ A6.o) fun B0 w8 ho_ hb => ?_; obtain ⟨M0, HB⟩ := n_ (lS_ ho_) <| sB_))
   go_loopg [8, 29] B1 (fun kq v8 P1 w' => ∃ (D0 : List (List Int)) (n0 : Int), P1 = .int .i64 n0 ∧ aa (aW.l0 kq a1 Q0 D0 n0 = some (r1, r2)) ∧ aa (kq ≤ B1) ∧ aa (Kd.S (Kd.slice 3 (Kd.int .i64)) 45 w' w.heap.size (fun k_ => some k_ ≠ (v8 : Value).ownBlock) B0 Q0) ∧ aa (Kd.S (Kd.slice 3 (Kd.int .i64)) 45 w' w.heap.size (fun k_ => some k_ ≠ (B0 : Value).ownBlock) v8 D0) ∧ aa (Below w.heap.size w w'))
   case atStart => exact ⟨(([] : List (List Int))), (0), f0_, H', ⟨Ca _⟩, ⟨by refine kS_ ?_; exact vk M0.o (fun _ hk => (by simp [Value.ownBlock]))⟩, ⟨by first | exact vC _ _ _ _ _ | exact Kd.N_nil _ _ _ _ _ | exact Kd.V_nil _ _ _ _ _ | exact Kd.Q_nil _ _ _ _ _ | exact vB _ _ _ _ _⟩, ⟨hB_⟩⟩
   clear H'
   obtain ⟨D0, n0, rfl, HA, C1, b0, d0, HB⟩ := hrel
   rcases gk with _ | k2
   ·exact absurd HA.o (by simp [aW.l0])
   have H := HA.o
   clear HA
   simp only [aW.l0] at H
   by_cases c9 : n0 < 2
   ·rw [Fa c9] at H
    have Y0 := ya c9
    clear c9
    obtain ⟨N0, x0⟩ : ∃ j_ : Int, (wrap64 (n0 * 320)) = j_ := ⟨_, rfl⟩
    first | rw [x0] at H | simp only [x0] at H
    have Z0 : (IntKind.i64.wrap (n0 * 320)) = N0 := (bq _).trans x0
    obtain ⟨b1, H⟩ := iN_ H
    have D1 := Aa b1
    have E1 := ya b1
    clear b1
    obtain ⟨F1, H⟩ := iN_ H
    have G1 := Aa F1
    have H1 := ya F1
    obtain ⟨I1, H⟩ := iN_ H
    have J1 := Aa I1
    have K1 := ya I1
    obtain ⟨⟨E0, c1⟩, Q1, H⟩ := bN_ H
    obtain ⟨H0, R1, H⟩ := bN_ H
    obtain ⟨F0, S1, H⟩ := bN_ H
    obtain ⟨L1, H⟩ := iN_ H
    have R0 := c_ L1
    clear L1
    obtain ⟨e1, y0⟩ : ∃ y_ : List (List Int), y_ = (D0 ++ [F0]) := ⟨_, rfl⟩
    first | replace H := yb_ y0 H | rw [← y0] at H
    have S0 := c_ y0
    clear y0
    have H' := c_ H
    clear H
    go_wp2_with (first | ((with_reducible refine eQ (f := 66) rfl ?_); refine iI (some 40) rfl rfl Tryz.func66 (by kernel_rfl) rfl #[.string (a1.extract ((N0) : Int).toNat ((wrap64 ((wrap64 (n0 + 1)) * 320)) : Int).toNat), .int .i64 10, .int .i64 256] rfl (by (try simp only [List.map_toArray, List.map_cons, List.map_nil]); first | done | (simp only [x0]; rfl) | rfl | (simp only [List.length_drop, List.length_take]; rfl)) ?_; (with_reducible refine (ar.calls k2 (a1.extract ((N0) : Int).toNat ((wrap64 ((wrap64 (n0 + 1)) * 320)) : Int).toNat) 10 256 E0 c1 _ Q1.o).mono ?_); rintro e L2 ⟨T1, rfl, f1, hb⟩; refine ⟨_, rfl, ?_⟩; obtain ⟨b0, d0, f0, HB⟩ := b_ (vd (rS_ b0.o) (vg f1) hb) <| b_ (vd (rS_ d0.o) (vg f1) hb) <| b_ (vb f1 (au (hB_))) <| sB_; obtain ⟨I0, J0, g1⟩ := uY f0.o; subst g1) | (refine gR_ (k_ 45 Tryz.func67) (ba.calls _ _ _ _ _ _ _ (cR_ (uX f0.o).2.2) ((uX f0.o).2.1) R1.o) fun U1 M2 ho_ hb => ?_; obtain ⟨b0, d0, f0, p0, HB⟩ := n_ (dg b0) <| n_ (dg d0) <| n_ (di f0) <| n_ (lR_ (dm ho_ f0)) <| sB_; obtain ⟨K0, L0, i1⟩ := uY p0.o; subst i1) | (refine gR_ (k_ 46 Tryz.func49) (aI.calls _ _ _ _ _ _ (cR_ (uX p0.o).2.2) ((uX p0.o).2.1) S1.o) fun V1 N2 ho_ hb => ?_; obtain ⟨b0, d0, f0, p0, G0, HB⟩ := n_ (dg b0) <| n_ (dg d0) <| n_ (di f0) <| n_ (di p0) <| n_ (lR_ (dm (dm ho_ f0) p0)) <| sB_; obtain ⟨O0, P0, j1⟩ := uY G0.o; subst j1) | ((refine cH (b := .append) (xs := #[.tmp 43, .tmp 47]) rfl ?_); (try (refine bi (by rfl) ?_; dsimp only)); at_builtin; refine vw (Kd.slice 3 (Kd.int .i64)) (w0 := w) w.heap.size rfl (.tmp 43) (.tmp 47) 41 45 (.slice none 0 0) 24 rfl Tryz.underlying41 gN rfl (by decide) (by omega) u8 D0 F0 [.slice O0 F0.length P0] (fun k_ => some k_ ≠ (B0 : Value).ownBlock ∧ some k_ ≠ (.slice I0 E0.length J0 : Value).ownBlock ∧ some k_ ≠ (.slice K0 H0.length L0 : Value).ownBlock) (fun k_ => some k_ = (.slice O0 F0.length P0 : Value).ownBlock) rfl rfl ?aP (fun k_ hk_ => ((va (ok' := fun k_ => ((fun k_ => some k_ ≠ (B0 : Value).ownBlock ∧ some k_ ≠ (.slice I0 E0.length J0 : Value).ownBlock ∧ some k_ ≠ (.slice K0 H0.length L0 : Value).ownBlock)) k_ ∧ some k_ ≠ (u8 : Value).ownBlock) (vh (vh (G0.o) (vi b0.o) (by decide)) (vi d0.o) (by decide)) (fun k_ hk => ⟨⟨hk.1.2, ⟨hk.1.1.1.2, hk.1.1.2⟩⟩, hk.2⟩))).1 k_ hk_.symm) ?aF ?aO ?aB ?aS ?aL ?_; (case aP => exact vP (va (vA rfl (va (ok' := fun k_ => ((fun k_ => some k_ ≠ (B0 : Value).ownBlock ∧ some k_ ≠ (.slice I0 E0.length J0 : Value).ownBlock ∧ some k_ ≠ (.slice K0 H0.length L0 : Value).ownBlock)) k_ ∧ some k_ ≠ (u8 : Value).ownBlock) (vh (vh (G0.o) (vi b0.o) (by decide)) (vi d0.o) (by decide)) (fun k_ hk => ⟨⟨hk.1.2, ⟨hk.1.1.1.2, hk.1.1.2⟩⟩, hk.2⟩))) (fun _ h_ => h_))); (case aB => exact (hB_)); (case aF => exact (fun k_ hk => ⟨Kd.fresh' (wd (rS_ b0.o)) k_ hk, Kd.fresh' (vE (rR_ f0.o)) k_ hk, Kd.fresh' (vE (rR_ p0.o)) k_ hk⟩)); (case aO => exact (by refine kS_ ?_; exact vk d0.o (fun k_ hk => ⟨⟨hk.1.1.1, ⟨hk.1.1.2, hk.1.2⟩⟩, fun e_ => hk.2 e_⟩))); (case aS => exact (au (hB_))); (case aL => have := R0.o; omega); intro X1 O2 ho hb hg hat; rw [← S0.o] at ho; obtain ⟨b0, f0, p0, HB, T0⟩ := b_ (vY (ok := (fun k_ => some k_ ≠ (.slice I0 E0.length J0 : Value).ownBlock ∧ some k_ ≠ (.slice K0 H0.length L0 : Value).ownBlock ∧ some k_ ≠ (.slice O0 F0.length P0 : Value).ownBlock)) (by refine kS_ ?_; exact vk b0.o (fun _ hk => ⟨⟨hk.1.1.2, ⟨hk.1.2, hk.2⟩⟩, hk.1.1.1⟩)) hg hat) <| b_ (vN (rR_ f0.o) (vi (rS_ d0.o)) (by decide) hg) <| b_ (vN (rR_ p0.o) (vi (rS_ d0.o)) (by decide) hg) <| b_ (hb) <| c_ (ho); clear ho hb hg hat))
    go_roundg k2
    case measure => have := A1.o; have := C1.o; omega
    case rel => exact ⟨(e1), (wrap64 (n0 + 1)), f0_, H', ⟨by have := A1.o; have := C1.o; omega⟩, ⟨by refine kS_ ?_; exact vk b0.o (fun _ hk => hk.2)⟩, ⟨by refine kS_ ?_; exact vk T0.o (fun _ hk => hk.1)⟩, ⟨hB_⟩⟩
   rw [Ga c9] at H
   have Y0 := za c9
   clear c9
   obtain ⟨l1, H⟩ := iN_ H
   have M1 := Aa l1
   have N1 := ya l1
   clear l1
   obtain ⟨⟨Y1, Z1⟩, b2, H⟩ := bN_ H
   obtain ⟨c2, f2, H⟩ := bN_ H
   obtain ⟨g2, i2, H⟩ := bN_ H
   obtain ⟨j2, l2, H⟩ := bN_ H
   obtain ⟨m2, n2, H⟩ := bN_ H
   simp only [Option.some.injEq, Prod.mk.injEq] at H
   obtain ⟨rfl, rfl⟩ := H
   go_wp2_with (first | (refine gR_ (k_ 53 Tryz.func66) (ar.calls _ _ _ _ _ _ _ b2.o) fun p2 P2 ho_ hb => ?_; obtain ⟨b0, d0, e0, HB⟩ := n_ (dg b0) <| n_ (dg d0) <| n_ (lR_ ho_) <| sB_; obtain ⟨q2, t2, m1⟩ := uY e0.o; subst m1) | (refine gR_ (k_ 57 Tryz.func67) (ba.calls _ _ _ _ _ _ _ (cR_ (uX e0.o).2.2) ((uX e0.o).2.1) f2.o) fun v2 Q2 ho_ hb => ?_; obtain ⟨b0, d0, e0, k0, HB⟩ := n_ (dg b0) <| n_ (dg d0) <| n_ (di e0) <| n_ (lR_ (dm ho_ e0)) <| sB_; obtain ⟨y2, z2, n1⟩ := vs b0.o; subst n1; obtain ⟨A2, B2, p1⟩ := vs d0.o; subst p1) | (refine gR_ (k_ 60 Tryz.func23) (bB.calls _ _ _ _ _ _ _ _ _ (cR_ (ve b0.o).2.2) ((ve b0.o).2.1) (cR_ (ve d0.o).2.2) ((ve d0.o).2.1) i2.o) fun C2 R2 ho_ hb => ?_; obtain ⟨b0, d0, e0, k0, q0, HB⟩ := n_ (dg b0) <| n_ (dg d0) <| n_ (di e0) <| n_ (di k0) <| n_ (lR_ (dm (dm ho_ e0) k0)) <| sB_; obtain ⟨D2, E2, q1⟩ := uY q0.o; subst q1) | (refine gR_ (k_ 61 Tryz.func65) (ag.calls _ _ _ _ _ _ (cR_ (uX q0.o).2.2) ((uX q0.o).2.1) l2.o) fun F2 T2 ho_ hb => ?_; obtain ⟨b0, d0, e0, k0, q0, r0, HB⟩ := n_ (dg b0) <| n_ (dg d0) <| n_ (di e0) <| n_ (di k0) <| n_ (di q0) <| n_ (lR_ (dm (dm (dm ho_ e0) k0) q0)) <| sB_; obtain ⟨G2, H2, t1⟩ := uY k0.o; subst t1; obtain ⟨I2, J2, y1⟩ := uY r0.o; subst y1) | (refine gR_ (k_ 62 Tryz.func68) (b9.calls _ _ _ _ _ _ _ _ _ (cR_ (uX k0.o).2.2) ((uX k0.o).2.1) (cR_ (uX r0.o).2.2) ((uX r0.o).2.1) n2.o) fun K2 U2 ho_ hb => ?_; obtain ⟨b0, d0, e0, k0, q0, r0, U0, HB⟩ := n_ (dg b0) <| n_ (dg d0) <| n_ (di e0) <| n_ (di k0) <| n_ (di q0) <| n_ (di r0) <| n_ (lR_ (dm (dm (dm (dm ho_ e0) k0) q0) r0)) <| sB_))
   go_ret2
   exact ⟨_, f1_, by refine kR_ ?_; exact va U0.o (fun _ hk => trivial), hB_⟩
  ·replace c7 := Ea c7
   subst c7
   replace H := iF_ H
   simp only [Option.some.injEq, Prod.mk.injEq] at H
   obtain ⟨rfl, rfl⟩ := H
   go_wp2_with (first | (refine gR_ (k_ 24 Tryz.func31) (bg.calls _ _ _ _ _ A6.o) fun B0 V2 ho_ hb => ?_; obtain ⟨M0, HB⟩ := n_ (lS_ ho_) <| sB_))
   go_ret2
   exact ⟨_, f1_, by first | exact vB _ _ _ _ _ | exact Kd.N_nil _ _ _ _ _ | exact Kd.V_nil _ _ _ _ _ | exact Kd.Q_nil _ _ _ _ _ | exact vC _ _ _ _ _, hB_⟩
def cm.l0 : Nat → Int → List Int → Int → Int → Option (Int)
 | 0, _, _, _, _ => none
 | k + 1, x6, x14, x15, x16 => if x16 < x15 then (if 0 ≤ x16 then (if x16 < (x14.length : Int) then (cm.l0 k (mx x6 (mn (rd x14 x16) (wrap64 (3329 - (rd x14 x16))))) x14 x15 (wrap64 (x16 + 1))) else (none)) else (none)) else (some x6)
def cm.f (k : Nat) (l0 : List Int) (l1 : List Int) : Option (Int) := (b9.f k l0 l1).bind fun t831 => (if (t831.length : Int) = 0 then (some (-1)) else (cm.l0 k 0 t831 (t831.length : Int) 0))
theorem cm.mono_l : ∀ k, (∀ y0 y1 y2 y3, LeO (cm.l0 k y0 y1 y2 y3) (cm.l0 (k + 1) y0 y1 y2 y3))
 | 0 => fun _ _ _ _ r h => by simp [cm.l0] at h
 | k + 1 => by
  have ih0 := cm.mono_l k
  intros; unfold cm.l0; exact o2_ ih0 b9.mono
theorem cm.mono : ∀ a0 a1 k, LeO (cm.f k a0 a1) (cm.f (k + 1) a0 a1) := by
 intro a0 a1 k
 have ih0 := cm.mono_l k
 unfold cm.f
 exact o2_ ih0 b9.mono
theorem cm.far_nil (w : World) : (Go.binOp .eql 45 (.slice none 0 0) (.slice none 0 0)).run Tryz.prog w = .ok (.bool true) w := Lib.run_eql_slice_nil w 45 _ none 0 0 0 0 Tryz.underlying45
theorem cm.far_some (w : World) (g : Addr) (n c : Nat) : (Go.binOp .eql 45 (.slice (some g) n c) (.slice none 0 0)).run Tryz.prog w = .ok (.bool false) w := Lib.run_eql_slice_nil w 45 _ (some g) n c 0 0 Tryz.underlying45
attribute [local go_sem] cm.far_nil cm.far_some
theorem cm.calls (k : Nat) (A0 : Option Addr) (c0 : Nat) (l0 : List Int) (A1 : Option Addr) (c1 : Nat) (l1 : List Int) (r : Int) (w : World) (hr0 : Kd.C (Kd.int .i64) w A0 l0.length l0) (hc0 : l0.length ≤ c0) (hr1 : Kd.C (Kd.int .i64) w A1 l1.length l1) (hc1 : l1.length ≤ c1) (h : cm.f k l0 l1 = some r) :
  Calls Tryz.prog 34 #[.slice A0 l0.length c0, .slice A1 l1.length c1] w fun e w' => e = .returned (.int .i64 r) ∧ Below w.heap.size w w' := by
 have G0 := c_ hr0
 have H0 := c_ hc0
 clear hr0 hc0
 have I0 := c_ hr1
 have J0 := c_ hc1
 clear hr1 hc1
 have HB := c_ (Da w.heap.size w)
 delta cm.f at h
 have H := h
 clear h
 obtain ⟨b0, A3, H⟩ := bN_ H
 by_cases c4 : (b0.length : Int) = 0
 ·rw [Fa c4] at H
  have r0 : ((b0.length : Int) == 0) = true := beq_iff_eq.mpr c4
  have y0 : ((b0.length : Int) != 0) = false := bne_eq_false_iff_eq.mpr c4
  clear c4
  obtain rfl := Ba H
  obtain rfl : b0 = [] := List.eq_nil_of_length_eq_zero (by have Q0 := beq_iff_eq.mp r0; omega)
  go_enter Tryz.func34, Tryz.ntmps34
  go_wp2_with (first | (refine gq_ 68 (some 11) Tryz.func68 #[.slice A0 l0.length c0, .slice A1 l1.length c1] (b9.calls_nil k _ _ l0 _ _ l1 _ ?side1 ?side2 ?side3 ?side4 A3.o) ?_; (case side1 => exact cR_ G0.o); (case side2 => exact H0.o); (case side3 => exact cR_ I0.o); (case side4 => exact J0.o); rintro e w5 ⟨rfl, hb⟩; refine ⟨_, rfl, ?_⟩; have n1_ := c_ (dF (hB_) hb); replace HB := n1_; clear n1_; (try clear R0)))
  go_ret
  exact ⟨f1_, hB_⟩
 rw [Ga c4] at H
 have r0 : ((b0.length : Int) == 0) = false := beq_eq_false_iff_ne.mpr c4
 have y0 : ((b0.length : Int) != 0) = true := bne_iff_ne.mpr c4
 have HNE := c_ (show ¬ (b0 = []) from fun h_ => c4 (by rw [h_]; rfl))
 have H' := c_ H
 clear H
 go_enter Tryz.func34, Tryz.ntmps34
 go_wp2_with (first | (refine gR_ (k_ 11 Tryz.func68) (b9.calls _ _ _ _ _ _ _ _ _ (cR_ G0.o) H0.o (cR_ I0.o) J0.o A3.o) fun B0 w7 ho_ hb => ?_; obtain ⟨k0, HB⟩ := n_ (lR_ ho_) <| sB_; obtain ⟨ad_, O0, eo_⟩ : ∃ (ad_ : Addr) (c_ : Nat), B0 = .slice (some ad_) b0.length c_ := (by obtain ⟨g_, c_, eo_, _⟩ := vq k0.o (List.length_pos_iff.mpr HNE.o); exact ⟨_, _, eo_⟩); subst eo_))
 go_loopg [6, 16] k (fun kq v6 P0 w' => ∃ (e0 : Int) (a0 : Int), v6 = .int .i64 e0 ∧ P0 = .int .i64 a0 ∧ aa (cm.l0 kq e0 b0 (b0.length : Int) a0 = some r) ∧ aa (kq ≤ k) ∧ aa (Kd.R (Kd.int .i64) 3 w' w.heap.size (fun _ => True) (.slice (some ad_) b0.length O0) b0) ∧ aa (Below w.heap.size w w'))
 case atStart => exact ⟨(0), (0), f0_, f0_, H', ⟨Ca _⟩, ⟨rR_ k0.o⟩, ⟨hB_⟩⟩
 clear H'
 obtain ⟨e0, a0, rfl, rfl, HA, K0, n0, HB⟩ := hrel
 rcases gk with _ | k1
 ·exact absurd HA.o (by simp [cm.l0])
 have H := HA.o
 clear HA
 simp only [cm.l0] at H
 by_cases c9 : a0 < (b0.length : Int)
 ·rw [Fa c9] at H
  have C0 := ya c9
  clear c9
  obtain ⟨L0, H⟩ := iD_ H
  obtain ⟨M0, H⟩ := iD_ H
  obtain ⟨j0, f0⟩ : ∃ j_ : Int, (mn (rd b0 a0) (wrap64 (3329 - (rd b0 a0)))) = j_ := ⟨_, rfl⟩
  first | rw [f0] at H | simp only [f0] at H
  have D0 : (if (wrap64 (3329 - (rd b0 a0))) < (rd b0 a0) then (wrap64 (3329 - (rd b0 a0))) else (rd b0 a0)) = j0 := f0
  obtain ⟨v0, d0⟩ : ∃ j_ : Int, (mx e0 (j0)) = j_ := ⟨_, rfl⟩
  first | rw [d0] at H | simp only [d0] at H
  have E0 : (if e0 < (j0) then (j0) else e0) = v0 := d0
  have H' := c_ H
  clear H
  have p0 : 0 ≤ (a0 : Int) := oD_
  have q0 : a0 < (b0.length : Int) := oD_
  obtain ⟨N0, F0, x0⟩ := uZ (uX n0.o).2.2 a0 p0 q0
  cases F0
  replace p0 := Aa p0
  replace q0 := Aa q0
  go_wp2
  go_roundg k1
  case measure => have := K0.o; omega
  case rel => exact ⟨(v0), (wrap64 (a0 + 1)), (by first | rfl | (simp; done) | (simp only [← d0] <;> (first | rfl | simp)) | (simp [*]; done)), f0_, H', ⟨by have := K0.o; omega⟩, ⟨rR_ n0.o⟩, ⟨hB_⟩⟩
 rw [Ga c9] at H
 have C0 := za c9
 clear c9
 obtain rfl := Ba H
 go_wp2
 go_ret
 exact ⟨f1_, hB_⟩
def bR.j0 : Nat → ByteArray → List Int → Bool → Option (Int)
 | 0, _, _, _ => none
 | k + 1, x1, x7, x21 => if x21 = true then (some (-1)) else ((bC.f k x1).bind fun t839 => ((cm.f k x7 t839).bind fun t842 => (some t842)))
def bR.f (k : Nat) (a0 : ByteArray) (a1 : ByteArray) (a2 : ByteArray) : Option (Int) := (aW.f k a0 a2).bind fun bt835 => (if bt835.2 = true then (bR.j0 k a1 bt835.1 ((a1.size : Int) != 32)) else (bR.j0 k a1 bt835.1 true))
theorem bR.mono_l : ∀ k, (∀ y0 y1 y2, LeO (bR.j0 k y0 y1 y2) (bR.j0 (k + 1) y0 y1 y2))
 | 0 => fun _ _ _ r h => by simp [bR.j0] at h
 | k + 1 => by
  have ih0 := bR.mono_l k
  intros; unfold bR.j0; exact o4_ ih0 cm.mono bC.mono aW.mono
theorem bR.mono : ∀ a0 a1 a2 k, LeO (bR.f k a0 a1 a2) (bR.f (k + 1) a0 a1 a2) := by
 intro a0 a1 a2 k
 have ih0 := bR.mono_l k
 unfold bR.f
 exact o4_ ih0 cm.mono bC.mono aW.mono
theorem bR.calls (k : Nat) (a0 : ByteArray) (a1 : ByteArray) (a2 : ByteArray) (r : Int) (w : World) (h : bR.f k a0 a1 a2 = some r) :
  Calls Tryz.prog 10 #[.string a0, .string a1, .string a2] w fun e w' => e = .returned (.int .i64 r) ∧ Below w.heap.size w w' := by
 have HB := c_ (Da w.heap.size w)
 delta bR.f at h
 have H := h
 clear h
 obtain ⟨⟨k0, n0⟩, A4, H⟩ := bN_ H
 have p0 := c_ H
 clear H
 go_enter Tryz.func10, Tryz.ntmps10
 go_upto_region 2 with (first | (refine gR_ (k_ 12 Tryz.func33) (aW.calls _ _ _ _ _ _ A4.o) fun q0 w6 ho_ hb => ?_; obtain ⟨f0, HB⟩ := n_ (lR_ ho_) <| sB_))
 (try simp only [Act.put, List.setIfInBounds_toArray, List.set_cons_zero, List.set_cons_succ])
 go_cut [21] (fun x0 wc => ∃ (kq : Nat) (e0 : Bool), x0 = .bool e0 ∧ aa (bR.j0 kq a1 k0 e0 = some r) ∧ aa (kq ≤ k) ∧ aa (Kd.R (Kd.int .i64) 3 wc w.heap.size (fun _ => True) q0 k0) ∧ aa (Below w.heap.size w wc))
 case first =>
  have H := p0.o
  clear p0
  by_cases c7 : n0 = true
  ·subst c7
   replace H := iT_ H
   have H' := c_ H
   clear H
   go_wp2
   go_meet
   case rel => exact ⟨_, (((a1.size : Int) != 32)), f0_, H', ⟨by first | omega | exact Ca _⟩, ⟨rR_ f0.o⟩, ⟨hB_⟩⟩
  ·replace c7 := Ea c7
   subst c7
   replace H := iF_ H
   have H' := c_ H
   clear H
   go_wp2
   go_meet
   case rel => exact ⟨_, (true), f0_, H', ⟨by first | omega | exact Ca _⟩, ⟨rR_ f0.o⟩, ⟨hB_⟩⟩
 clear p0
 obtain ⟨kq, e0, rfl, HA, I0, b0, HB⟩ := hcut
 rcases kq with _ | J0
 ·exact absurd HA.o (by simp [bR.j0])
 have H := HA.o
 clear HA
 simp only [bR.j0] at H
 by_cases c8 : e0 = true
 ·subst c8
  replace H := iT_ H
  obtain rfl := Ba H
  go_wp2
  go_ret
  exact ⟨f1_, hB_⟩
 ·replace c8 := Ea c8
  subst c8
  replace H := iF_ H
  obtain ⟨y0, A9, H⟩ := bN_ H
  obtain ⟨B0, C0, H⟩ := bN_ H
  obtain rfl := Ba H
  go_wp2_with (first | (refine gR_ (k_ 24 Tryz.func35) (bC.calls _ _ _ _ A9.o) fun D0 K0 ho_ hb => ?_; obtain ⟨b0, d0, HB⟩ := n_ (di b0) <| n_ (lR_ (dm ho_ b0)) <| sB_; obtain ⟨E0, F0, r0⟩ := uY b0.o; subst r0; obtain ⟨G0, H0, v0⟩ := uY d0.o; subst v0) | (refine gc_ (k_ 25 Tryz.func34) (cm.calls _ _ _ _ _ _ _ _ _ (cR_ (uX b0.o).2.2) ((uX b0.o).2.1) (cR_ (uX d0.o).2.2) ((uX d0.o).2.1) C0.o) fun L0 hb => ?_; obtain ⟨b0, d0, HB⟩ := n_ (fR_ b0) <| n_ (fR_ d0) <| sB_))
  go_ret
  exact ⟨f1_, hB_⟩
mutual
def av.j0 : Nat → ByteArray → Int → Int → List Int → Bool → Option (List Int × Bool)
 | 0, _, _, _, _, _ => none
 | k + 1, x0, x1, x2, x8, x31 => if x31 = true then (some (x8, false)) else (av.l0 k x0 x1 x2 x8 0 0 0 0)
def av.l0 : Nat → ByteArray → Int → Int → List Int → Int → Int → Int → Int → Option (List Int × Bool)
 | 0, _, _, _, _, _, _, _, _ => none
 | k + 1, x0, x1, x2, x8, x9, x10, x11, x12 => if x12 < x2 then (av.l1 k x0 x1 x2 x8 x9 x10 x11 x12) else (if x9 = 0 then (some (x8, true)) else (some ((([] : List Int)), false)))
def av.l1 : Nat → ByteArray → Int → Int → List Int → Int → Int → Int → Int → Option (List Int × Bool)
 | 0, _, _, _, _, _, _, _, _ => none
 | k + 1, x0, x1, x2, x8, x9, x10, x11, x12 => if x10 < x1 then (if 0 ≤ x11 then (if x11 < (x0.size : Int) then ((ay.f k x10).bind fun t851 => (av.l1 k x0 x1 x2 x8 (wrap64 (x9 + (wrap64 ((wrap64 (bt x0 x11)) * t851)))) (wrap64 (x10 + 8)) (wrap64 (x11 + 1)) x12)) else (none)) else (none)) else ((ay.f k x1).bind fun t852 => (if t852 = 0 then (none) else (if x8.length < 17592186044416 then ((ay.f k x1).bind fun t856 => (if t856 = 0 then (none) else (av.l0 k x0 x1 x2 (x8 ++ [Int.tmod x9 t852]) (wrap64 (Int.tdiv x9 t856)) (wrap64 (x10 - x1)) x11 (wrap64 (x12 + 1))))) else (none))))
end
def av.f (k : Nat) (a0 : ByteArray) (a1 : Int) (a2 : Int) : Option (List Int × Bool) := (some (([] : List Int) : List Int)).bind fun y843 => ((aX.f a1 1 12).bind fun t846 => (if t846 = true then ((aX.f a2 0 1000).bind fun t847 => (if t847 = true then (av.j0 k a0 a1 a2 y843 ((a0.size : Int) != (wrap64 (Int.tdiv (wrap64 ((wrap64 (a2 * a1)) + 7)) 8)))) else (av.j0 k a0 a1 a2 y843 true))) else (av.j0 k a0 a1 a2 y843 true)))
theorem av.mono_l : ∀ k, (∀ y0 y1 y2 y3 y4, LeO (av.j0 k y0 y1 y2 y3 y4) (av.j0 (k + 1) y0 y1 y2 y3 y4)) ∧ (∀ y0 y1 y2 y3 y4 y5 y6 y7, LeO (av.l0 k y0 y1 y2 y3 y4 y5 y6 y7) (av.l0 (k + 1) y0 y1 y2 y3 y4 y5 y6 y7)) ∧ (∀ y0 y1 y2 y3 y4 y5 y6 y7, LeO (av.l1 k y0 y1 y2 y3 y4 y5 y6 y7) (av.l1 (k + 1) y0 y1 y2 y3 y4 y5 y6 y7))
 | 0 => ⟨fun _ _ _ _ _ r h => by simp [av.j0] at h, fun _ _ _ _ _ _ _ _ r h => by simp [av.l0] at h, fun _ _ _ _ _ _ _ _ r h => by simp [av.l1] at h⟩
 | k + 1 => by
  obtain ⟨ih0, ih1, ih2⟩ := av.mono_l k
  refine ⟨?_, ?_, ?_⟩ <;> (intros; (first | unfold av.j0 | unfold av.l0 | unfold av.l1); exact o4_ ih0 ih1 ih2 ay.mono)
theorem av.mono : ∀ a0 a1 a2 k, LeO (av.f k a0 a1 a2) (av.f (k + 1) a0 a1 a2) := by
 intro a0 a1 a2 k
 obtain ⟨ih0, ih1, ih2⟩ := av.mono_l k
 unfold av.f
 exact o4_ ih0 ih1 ih2 ay.mono
theorem av.calls (k : Nat) (a0 : ByteArray) (a1 : Int) (a2 : Int) (r1 : List Int) (r2 : Bool) (w : World) (h : av.f k a0 a1 a2 = some (r1, r2)) :
  Calls Tryz.prog 101 #[.string a0, .int .i64 a1, .int .i64 a2] w fun e w' => ∃ y1 : Value, e = .returned (.tuple #[y1, .bool r2]) ∧ Kd.R (Kd.int .i64) 3 w' w.heap.size (fun _ => True) y1 r1 ∧ Below w.heap.size w w' := by
 have HB := c_ (Da w.heap.size w)
 delta av.f at h
 have H := h
 clear h
 obtain ⟨L0, p0⟩ : ∃ y_ : List Int, y_ = (([] : List Int)) := ⟨_, rfl⟩
 first | replace H := yb_ p0 H | rw [← p0] at H
 have D0 := c_ p0
 clear p0
 have c1 := c_ H
 clear H
 go_enter Tryz.func101, Tryz.ntmps101
 go_upto_region 2 with (first | ((try (refine bi (by rfl) ?_; dsimp only)); refine lj_ 13 .i64 3 D0 fun M0 w5 n0 HB => ?_))
 repeat (go_quiet (first | ((try (refine bi (by rfl) ?_; dsimp only)); refine lj_ 13 .i64 3 D0 fun M0 w5 n0 HB => ?_)); go_upto_region 2 with (first | ((try (refine bi (by rfl) ?_; dsimp only)); refine lj_ 13 .i64 3 D0 fun M0 w5 n0 HB => ?_)))
 (try simp only [Act.put, List.setIfInBounds_toArray, List.set_cons_zero, List.set_cons_succ])
 go_cut [31] (fun I1 wc => ∃ (kq : Nat) (q0 : Bool), I1 = .bool q0 ∧ aa (av.j0 kq a0 a1 a2 L0 q0 = some (r1, r2)) ∧ aa (kq ≤ k) ∧ aa (Kd.R (Kd.int .i64) 3 wc w.heap.size (fun _ => True) M0 L0) ∧ aa (Below w.heap.size w wc))
 case first =>
  have H := c1.o
  clear c1
  obtain ⟨e1, A7, H⟩ := bN_ H
  by_cases c8 : e1 = true
  ·subst c8
   replace H := iT_ H
   obtain ⟨f1, A9, H⟩ := bN_ H
   by_cases U0 : f1 = true
   ·subst U0
    replace H := iT_ H
    have H' := c_ H
    clear H
    go_wp2_with (first | (go_at_call 97; refine mp_ (aX.calls _ _ _ _ _ A7.o) fun nd => ?_; (try exact dD_)) | (go_at_call 97; refine mp_ (aX.calls _ _ _ _ _ A9.o) fun nd => ?_; (try exact dD_)))
    repeat (go_quiet (first | (go_at_call 97; refine mp_ (aX.calls _ _ _ _ _ A7.o) fun nd => ?_; (try exact dD_)) | (go_at_call 97; refine mp_ (aX.calls _ _ _ _ _ A9.o) fun nd => ?_; (try exact dD_))); try go_wp2)
    go_meet
    case rel => exact ⟨_, (((a0.size : Int) != (wrap64 (Int.tdiv (wrap64 ((wrap64 (a2 * a1)) + 7)) 8)))), f0_, H', ⟨by first | omega | exact Ca _⟩, ⟨rR_ n0.o⟩, ⟨hB_⟩⟩
   ·replace U0 := Ea U0
    subst U0
    replace H := iF_ H
    have H' := c_ H
    clear H
    go_wp2_with (first | (go_at_call 97; refine mp_ (aX.calls _ _ _ _ _ A7.o) fun nd => ?_; (try exact dD_)) | (go_at_call 97; refine mp_ (aX.calls _ _ _ _ _ A9.o) fun nd => ?_; (try exact dD_)))
    repeat (go_quiet (first | (go_at_call 97; refine mp_ (aX.calls _ _ _ _ _ A7.o) fun nd => ?_; (try exact dD_)) | (go_at_call 97; refine mp_ (aX.calls _ _ _ _ _ A9.o) fun nd => ?_; (try exact dD_))); try go_wp2)
    go_meet
    case rel => exact ⟨_, (true), f0_, H', ⟨by first | omega | exact Ca _⟩, ⟨rR_ n0.o⟩, ⟨hB_⟩⟩
  ·replace c8 := Ea c8
   subst c8
   replace H := iF_ H
   have H' := c_ H
   clear H
   go_wp2_with (first | (go_at_call 97; refine mp_ (aX.calls _ _ _ _ _ A7.o) fun nd => ?_; (try exact dD_)))
   repeat (go_quiet (first | (go_at_call 97; refine mp_ (aX.calls _ _ _ _ _ A7.o) fun nd => ?_; (try exact dD_))); try go_wp2)
   go_meet
   case rel => exact ⟨_, (true), f0_, H', ⟨by first | omega | exact Ca _⟩, ⟨rR_ n0.o⟩, ⟨hB_⟩⟩
 clear c1
 obtain ⟨kq, q0, rfl, HA, V0, b0, HB⟩ := hcut
 rcases kq with _ | z1
 ·exact absurd HA.o (by simp [av.j0])
 have H := HA.o
 clear HA
 simp only [av.j0] at H
 by_cases W0 : q0 = true
 ·subst W0
  replace H := iT_ H
  simp only [Option.some.injEq, Prod.mk.injEq] at H
  obtain ⟨rfl, rfl⟩ := H
  go_wp2
  repeat (go_quiet (fail); try go_wp2)
  go_ret2
  exact ⟨_, f1_, rR_ b0.o, hB_⟩
 ·replace W0 := Ea W0
  subst W0
  replace H := iF_ H
  have H' := c_ H
  clear H
  go_wp2
  repeat (go_quiet (fail); try go_wp2)
  go_loopg [8, 9, 10, 11, 12] z1 (fun kq v8 v9 g1 i1 J1 w' => ∃ (B0 : List Int) (k0 : Int) (r0 : Int) (v0 : Int) (e0 : Int), v9 = .int .i64 k0 ∧ g1 = .int .i64 r0 ∧ i1 = .int .i64 v0 ∧ J1 = .int .i64 e0 ∧ aa (av.l0 kq a0 a1 a2 B0 k0 r0 v0 e0 = some (r1, r2)) ∧ aa (kq ≤ z1) ∧ aa (Kd.R (Kd.int .i64) 3 w' w.heap.size (fun _ => True) v8 B0) ∧ aa (Below w.heap.size w w'))
  case atStart => exact ⟨(L0), (0), (0), (0), (0), f0_, f0_, f0_, f0_, H', ⟨Ca _⟩, ⟨rR_ b0.o⟩, ⟨hB_⟩⟩
  clear H'
  obtain ⟨B0, k0, r0, v0, e0, rfl, rfl, rfl, rfl, HA, X0, b0, HB⟩ := hrel
  rcases gk with _ | k2
  ·exact absurd HA.o (by simp [av.l0])
  have H := HA.o
  clear HA
  simp only [av.l0] at H
  by_cases O0 : e0 < a2
  rotate_left
  ·rw [Ga O0] at H
   have Q0 := za O0
   clear O0
   by_cases N0 : k0 = 0
   ·rw [Fa N0] at H
    have R0 : (k0 == 0) = true := beq_iff_eq.mpr N0
    have S0 : (k0 != 0) = false := bne_eq_false_iff_eq.mpr N0
    clear N0
    simp only [Option.some.injEq, Prod.mk.injEq] at H
    obtain ⟨rfl, rfl⟩ := H
    go_wp2
    repeat (go_quiet (fail); try go_wp2)
    go_ret2
    exact ⟨_, f1_, rR_ b0.o, hB_⟩
   rw [Ga N0] at H
   have R0 : (k0 == 0) = false := beq_eq_false_iff_ne.mpr N0
   have S0 : (k0 != 0) = true := bne_iff_ne.mpr N0
   obtain ⟨K1, x0⟩ : ∃ y_ : List Int, y_ = (([] : List Int)) := ⟨_, rfl⟩
   first | replace H := yb_ x0 H | rw [← x0] at H
   have G0 := c_ x0
   clear x0
   simp only [Option.some.injEq, Prod.mk.injEq] at H
   obtain ⟨rfl, rfl⟩ := H
   go_wp2_with (first | ((try (refine bi (by rfl) ?_; dsimp only)); refine li_ 70 .i64 3 G0 fun j1 L1 ho_ hb => ?_; obtain ⟨b0, H0, HB⟩ := n_ (di b0) <| n_ (lR_ (dm ho_ b0)) <| sB_))
   repeat (go_quiet (first | ((try (refine bi (by rfl) ?_; dsimp only)); refine li_ 70 .i64 3 G0 fun j1 L1 ho_ hb => ?_; obtain ⟨b0, H0, HB⟩ := n_ (di b0) <| n_ (lR_ (dm ho_ b0)) <| sB_)); try go_wp2)
   go_ret2
   exact ⟨_, f1_, by refine kR_ ?_; exact va H0.o (fun _ hk => trivial), hB_⟩
  rw [Fa O0] at H
  have Q0 := ya O0
  clear O0
  have H' := c_ H
  clear H
  go_wp2
  repeat (go_quiet (fail); try go_wp2)
  go_loopg [9, 10, 11] k2 (fun kq v9 g1 i1 w' => ∃ (C0 : Int) (f0 : Int) (d0 : Int), v9 = .int .i64 C0 ∧ g1 = .int .i64 f0 ∧ i1 = .int .i64 d0 ∧ aa (av.l1 kq a0 a1 a2 B0 C0 f0 d0 e0 = some (r1, r2)) ∧ aa (kq ≤ k2) ∧ aa (Kd.R (Kd.int .i64) 3 w' w.heap.size (fun _ => True) u8 B0) ∧ aa (Below w.heap.size w w'))
  case atStart => exact ⟨(k0), (r0), (v0), f0_, f0_, f0_, H', ⟨Ca _⟩, ⟨rR_ b0.o⟩, ⟨hB_⟩⟩
  clear H'
  obtain ⟨C0, f0, d0, rfl, rfl, rfl, HA, Y0, b0, HB⟩ := hrel
  rcases gk with _ | k3
  ·exact absurd HA.o (by simp [av.l1])
  have H := HA.o
  clear HA
  simp only [av.l1] at H
  by_cases P0 : f0 < a1
  ·rw [Fa P0] at H
   have T0 := ya P0
   clear P0
   obtain ⟨A1, H⟩ := iD_ H
   obtain ⟨B1, H⟩ := iD_ H
   obtain ⟨m1, C1, H⟩ := bN_ H
   have H' := c_ H
   clear H
   have O1 := Aa (oD_ : 0 ≤ (d0 : Int))
   have P1 := Aa (oD_ : d0 < (a0.size : Int))
   have M1 := cQ a0 d0
   go_wp2_with (first | (go_at_call 98; refine mp_ (ay.calls _ _ _ _ C1.o) fun nd => ?_; (try exact dD_)))
   repeat (go_quiet (first | (go_at_call 98; refine mp_ (ay.calls _ _ _ _ C1.o) fun nd => ?_; (try exact dD_))); try go_wp2)
   go_roundg k3
   case measure => have := V0.o; have := X0.o; have := Y0.o; omega
   case rel => exact ⟨(wrap64 (C0 + (wrap64 ((wrap64 (bt a0 d0)) * m1)))), (wrap64 (f0 + 8)), (wrap64 (d0 + 1)), f0_, f0_, f0_, H', ⟨by have := V0.o; have := X0.o; have := Y0.o; omega⟩, ⟨rR_ b0.o⟩, ⟨hB_⟩⟩
  rw [Ga P0] at H
  have T0 := za P0
  clear P0
  obtain ⟨E0, n1, H⟩ := bN_ H
  by_cases Z0 : E0 = 0
  ·rw [Fa Z0] at H
   exact absurd H (by simp)
  rw [Ga Z0] at H
  have D1 : (E0 == 0) = false := beq_eq_false_iff_ne.mpr Z0
  have E1 : (E0 != 0) = true := bne_iff_ne.mpr Z0
  obtain ⟨F1, H⟩ := iN_ H
  have I0 := c_ F1
  clear F1
  obtain ⟨p1, y0⟩ : ∃ y_ : List Int, y_ = (B0 ++ [Int.tmod C0 E0]) := ⟨_, rfl⟩
  first | replace H := yb_ y0 H | rw [← y0] at H
  have J0 := c_ y0
  clear y0
  obtain ⟨F0, q1, H⟩ := bN_ H
  have QA21 := c_ (Ba (n1.o.symm.trans q1.o))
  by_cases b1 : F0 = 0
  ·rw [Fa b1] at H
   exact absurd H (by simp)
  rw [Ga b1] at H
  have G1 : (F0 == 0) = false := beq_eq_false_iff_ne.mpr b1
  have H1 : (F0 != 0) = true := bne_iff_ne.mpr b1
  have H' := c_ H
  clear H
  go_wp2_with (first | (go_at_call 98; refine mp_ (ay.calls _ _ _ _ n1.o) fun nd => ?_; (try exact dD_)) | (refine ga_ 54 59 ?_; (try (refine bi (by rfl) ?_; dsimp only)); at_builtin; refine ap_ b0 J0 I0 Tryz.underlying45 df fun t1 N1 K0 HB hg hat => ?_) | (go_at_call 98; refine mp_ (ay.calls _ _ _ _ q1.o) fun nd => ?_; (try exact dD_)))
  repeat (go_quiet (first | (go_at_call 98; refine mp_ (ay.calls _ _ _ _ n1.o) fun nd => ?_; (try exact dD_)) | (refine ga_ 54 59 ?_; (try (refine bi (by rfl) ?_; dsimp only)); at_builtin; refine ap_ b0 J0 I0 Tryz.underlying45 df fun t1 N1 K0 HB hg hat => ?_) | (go_at_call 98; refine mp_ (ay.calls _ _ _ _ q1.o) fun nd => ?_; (try exact dD_))); try go_wp2)
  go_roundg k3
  case measure => have := V0.o; have := X0.o; have := Y0.o; omega
  case rel => exact ⟨(p1), (wrap64 (Int.tdiv C0 F0)), (wrap64 (f0 - a1)), (d0), (wrap64 (e0 + 1)), (by first | rfl | (simp only [QA21.o]; done) | (simp; done) | (simp [*]; done)), (by first | rfl | (simp only [QA21.o]; done) | (simp; done) | (simp [*]; done)), (by first | rfl | (simp only [QA21.o]; done) | (simp; done) | (simp [*]; done)), (by first | rfl | (simp only [QA21.o]; done) | (simp; done) | (simp [*]; done)), H', ⟨by have := V0.o; have := X0.o; have := Y0.o; omega⟩, ⟨rR_ K0.o⟩, ⟨hB_⟩⟩
def cv.f (k : Nat) (a0 : ByteArray) : Option (List Int × Bool) := (av.f k a0 12 256).bind fun bt857 => (if bt857.2 = true then ((ak.f k bt857.1).bind fun t861 => (if t861 = true then (some (bt857.1, true)) else (some ((([] : List Int)), false)))) else (some ((([] : List Int)), false)))
theorem cv.mono : ∀ a0 k, LeO (cv.f k a0) (cv.f (k + 1) a0) := by
 intro a0 k
 unfold cv.f
 exact o2_ ak.mono av.mono
theorem cv.calls (k : Nat) (a0 : ByteArray) (r1 : List Int) (r2 : Bool) (w : World) (h : cv.f k a0 = some (r1, r2)) :
  Calls Tryz.prog 100 #[.string a0] w fun e w' => ∃ v0 : Value, e = .returned (.tuple #[v0, .bool r2]) ∧ Kd.R (Kd.int .i64) 3 w' w.heap.size (fun _ => True) v0 r1 ∧ Below w.heap.size w w' := by
 have HB := c_ (Da w.heap.size w)
 delta cv.f at h
 have H := h
 clear h
 obtain ⟨⟨x0, q0⟩, A2, H⟩ := bN_ H
 by_cases c3 : q0 = true
 ·subst c3
  replace H := iT_ H
  obtain ⟨r0, A4, H⟩ := bN_ H
  by_cases c5 : r0 = true
  ·subst c5
   replace H := iT_ H
   simp only [Option.some.injEq, Prod.mk.injEq] at H
   obtain ⟨rfl, rfl⟩ := H
   go_enter Tryz.func100, Tryz.ntmps100
   go_wp2_with (first | (refine gR_ (k_ 8 Tryz.func101) (av.calls _ _ _ _ _ _ _ A2.o) fun f0 w6 ho_ hb => ?_; obtain ⟨b0, HB⟩ := n_ (lR_ ho_) <| sB_; obtain ⟨G0, H0, y0⟩ := uY b0.o; subst y0) | (go_at_call 57; refine mp_ (ak.calls _ _ _ _ _ _ (cR_ (uX b0.o).2.2) ((uX b0.o).2.1) A4.o) fun nd => ?_))
   go_ret2
   exact ⟨_, f1_, rR_ b0.o, hB_⟩
  ·replace c5 := Ea c5
   subst c5
   replace H := iF_ H
   obtain ⟨B0, d0⟩ : ∃ y_ : List Int, y_ = (([] : List Int)) := ⟨_, rfl⟩
   first | replace H := yb_ d0 H | rw [← d0] at H
   have j0 := c_ d0
   clear d0
   simp only [Option.some.injEq, Prod.mk.injEq] at H
   obtain ⟨rfl, rfl⟩ := H
   go_enter Tryz.func100, Tryz.ntmps100
   go_wp2_with (first | (refine gR_ (k_ 8 Tryz.func101) (av.calls _ _ _ _ _ _ _ A2.o) fun f0 w8 ho_ hb => ?_; obtain ⟨b0, HB⟩ := n_ (lR_ ho_) <| sB_; obtain ⟨I0, J0, C0⟩ := uY b0.o; subst C0) | (go_at_call 57; refine mp_ (ak.calls _ _ _ _ _ _ (cR_ (uX b0.o).2.2) ((uX b0.o).2.1) A4.o) fun nd => ?_) | (refine li_ 18 .i64 3 j0 fun D0 K0 ho_ hb => ?_; obtain ⟨b0, k0, HB⟩ := n_ (di b0) <| n_ (lR_ (dm ho_ b0)) <| sB_))
   go_ret2
   exact ⟨_, f1_, by refine kR_ ?_; exact va k0.o (fun _ hk => trivial), hB_⟩
 ·replace c3 := Ea c3
  subst c3
  replace H := iF_ H
  obtain ⟨E0, e0⟩ : ∃ y_ : List Int, y_ = (([] : List Int)) := ⟨_, rfl⟩
  first | replace H := yb_ e0 H | rw [← e0] at H
  have n0 := c_ e0
  clear e0
  simp only [Option.some.injEq, Prod.mk.injEq] at H
  obtain ⟨rfl, rfl⟩ := H
  go_enter Tryz.func100, Tryz.ntmps100
  go_wp2_with (first | (refine gR_ (k_ 8 Tryz.func101) (av.calls _ _ _ _ _ _ _ A2.o) fun f0 L0 ho_ hb => ?_; obtain ⟨b0, HB⟩ := n_ (lR_ ho_) <| sB_) | (refine li_ 18 .i64 3 n0 fun F0 M0 ho_ hb => ?_; obtain ⟨b0, p0, HB⟩ := n_ (di b0) <| n_ (lR_ (dm ho_ b0)) <| sB_))
  go_ret2
  exact ⟨_, f1_, by refine kR_ ?_; exact va p0.o (fun _ hk => trivial), hB_⟩
def bp.l0 : Nat → ByteArray → List (List Int) → Int → Option ((List (List Int)) × Bool)
 | 0, _, _, _ => none
 | k + 1, x0, x4, x5 => if x5 < 2 then (if 0 ≤ (wrap64 (x5 * 384)) then (if (wrap64 (x5 * 384)) ≤ (wrap64 ((wrap64 (x5 + 1)) * 384)) then (if (wrap64 ((wrap64 (x5 + 1)) * 384)) ≤ (x0.size : Int) then ((cv.f k (x0.extract ((wrap64 (x5 * 384)) : Int).toNat ((wrap64 ((wrap64 (x5 + 1)) * 384)) : Int).toNat)).bind fun bt871 => (if bt871.2 = true then (if x4.length < 5864062014805 then (bp.l0 k x0 (x4 ++ [bt871.1]) (wrap64 (x5 + 1))) else (none)) else (some ((([] : List (List Int))), false)))) else (none)) else (none)) else (none)) else (some (x4, true))
def bp.f (k : Nat) (a0 : ByteArray) : Option ((List (List Int)) × Bool) := bp.l0 k a0 (([] : List (List Int))) 0
theorem bp.mono_l : ∀ k, (∀ y0 y1 y2, LeO (bp.l0 k y0 y1 y2) (bp.l0 (k + 1) y0 y1 y2))
 | 0 => fun _ _ _ r h => by simp [bp.l0] at h
 | k + 1 => by
  have ih0 := bp.mono_l k
  intros; unfold bp.l0; exact o2_ ih0 cv.mono
theorem bp.mono : ∀ a0 k, LeO (bp.f k a0) (bp.f (k + 1) a0) := by
 intro a0 k
 have ih0 := bp.mono_l k
 unfold bp.f
 exact o2_ ih0 cv.mono
theorem bp.calls (k : Nat) (a0 : ByteArray) (r1 : List (List Int)) (r2 : Bool) (w : World) (h : bp.f k a0 = some (r1, r2)) :
  Calls Tryz.prog 70 #[.string a0] w fun e w' => ∃ R0 : Value, e = .returned (.tuple #[R0, .bool r2]) ∧ Kd.S (Kd.slice 3 (Kd.int .i64)) 45 w' w.heap.size (fun _ => True) R0 r1 ∧ Below w.heap.size w w' := by
 have HB := c_ (Da w.heap.size w)
 delta bp.f at h
 have H := h
 clear h
 obtain ⟨L0, f0⟩ : ∃ y_ : List (List Int), y_ = (([] : List (List Int))) := ⟨_, rfl⟩
 first | replace H := yb_ f0 H | rw [← f0] at H
 have v0 := c_ f0
 clear f0
 have H' := c_ H
 clear H
 go_enter Tryz.func70, Tryz.ntmps70
 go_wp2_with (first | ((refine cO (N := 8) rfl ?_); refine wl (Kd.slice 3 (Kd.int .i64)) _ 45 ?hg (N := 8) ?hd (xs := ([] : List (List Int))) (inner := []) (ok := fun _ => True) (okp := fun _ => True) ?hr ?hp (fun _ hk => hk) trivial (Da _ _) (Ca _) (by simp) ?_; (case hd => rfl); (case hg => rfl); (case hr => first | (go_simp; done) | (go_simp; rfl)); (case hp => exact (eW.none _ _)); intro V0 w2 B0 hb hg_ hnew_; clear hg_ hnew_; (first | rw [← v0.o] at B0 | (simp only [Int.reduceToNat] at B0; rw [← v0.o] at B0)); obtain ⟨C0, HB⟩ := b_ (vG B0 (au (hB_))) <| sB_; clear hb B0))
 go_loopg [4, 5] k (fun kq v4 v5 w' => ∃ (r0 : List (List Int)) (b0 : Int), v5 = .int .i64 b0 ∧ aa (bp.l0 kq a0 r0 b0 = some (r1, r2)) ∧ aa (kq ≤ k) ∧ aa (Kd.S (Kd.slice 3 (Kd.int .i64)) 45 w' w.heap.size (fun _ => True) v4 r0) ∧ aa (Below w.heap.size w w'))
 case atStart => exact ⟨(L0), (0), f0_, H', ⟨Ca _⟩, ⟨rS_ C0.o⟩, ⟨hB_⟩⟩
 clear H'
 obtain ⟨r0, b0, rfl, HA, S0, d0, HB⟩ := hrel
 rcases gk with _ | k1
 ·exact absurd HA.o (by simp [bp.l0])
 have H := HA.o
 clear HA
 simp only [bp.l0] at H
 by_cases c4 : b0 < 2
 rotate_left
 ·rw [Ga c4] at H
  have M0 := za c4
  clear c4
  simp only [Option.some.injEq, Prod.mk.injEq] at H
  obtain ⟨rfl, rfl⟩ := H
  go_wp2
  go_ret2
  exact ⟨_, f1_, by refine kS_ ?_; exact d0.o, hB_⟩
 rw [Fa c4] at H
 have M0 := ya c4
 clear c4
 obtain ⟨D0, n0⟩ : ∃ j_ : Int, (wrap64 (b0 * 384)) = j_ := ⟨_, rfl⟩
 first | rw [n0] at H | simp only [n0] at H
 have T0 : (IntKind.i64.wrap (b0 * 384)) = D0 := (bq _).trans n0
 obtain ⟨c6, H⟩ := iN_ H
 have W0 := Aa c6
 have X0 := ya c6
 clear c6
 obtain ⟨c7, H⟩ := iN_ H
 have Y0 := Aa c7
 have Z0 := ya c7
 obtain ⟨c8, H⟩ := iN_ H
 have b1 := Aa c8
 have c1 := ya c8
 obtain ⟨⟨p0, N0⟩, A9, H⟩ := bN_ H
 by_cases K0 : N0 = true
 ·subst K0
  replace H := iT_ H
  obtain ⟨U0, H⟩ := iN_ H
  have E0 := c_ U0
  clear U0
  obtain ⟨O0, j0⟩ : ∃ y_ : List (List Int), y_ = (r0 ++ [p0]) := ⟨_, rfl⟩
  first | replace H := yb_ j0 H | rw [← j0] at H
  have F0 := c_ j0
  clear j0
  have H' := c_ H
  clear H
  go_wp2_with (first | ((with_reducible refine eQ (f := 100) rfl ?_); refine iI (some 21) rfl rfl Tryz.func100 (by kernel_rfl) rfl #[.string (a0.extract ((D0) : Int).toNat ((wrap64 ((wrap64 (b0 + 1)) * 384)) : Int).toNat)] rfl (by (try simp only [List.map_toArray, List.map_cons, List.map_nil]); first | done | (simp only [n0]; rfl) | rfl | (simp only [List.length_drop, List.length_take]; rfl)) ?_; (with_reducible refine (cv.calls k1 (a0.extract ((D0) : Int).toNat ((wrap64 ((wrap64 (b0 + 1)) * 384)) : Int).toNat) p0 true _ A9.o).mono ?_); rintro e i1 ⟨P0, rfl, y0, hb⟩; refine ⟨_, rfl, ?_⟩; obtain ⟨d0, e0, HB⟩ := b_ (vd (rS_ d0.o) (vg y0) hb) <| b_ (vb y0 (au (hB_))) <| sB_; obtain ⟨G0, H0, Q0⟩ := uY e0.o; subst Q0) | ((refine cH (b := .append) (xs := #[.tmp 27, .tmp 29]) rfl ?_); at_builtin; refine vw (Kd.slice 3 (Kd.int .i64)) (w0 := w) w.heap.size rfl (.tmp 27) (.tmp 29) 41 45 (.slice none 0 0) 24 rfl Tryz.underlying41 gN rfl (by decide) (by omega) u4 r0 p0 [.slice G0 p0.length H0] (fun _ => True) (fun k_ => some k_ = (.slice G0 p0.length H0 : Value).ownBlock) rfl rfl ?aP (fun k_ hk_ => ((va (ok' := fun k_ => ((fun _ => True)) k_ ∧ some k_ ≠ (u4 : Value).ownBlock) (vh (e0.o) (vi d0.o) (by decide)) (fun k_ hk => ⟨trivial, hk.2⟩))).1 k_ hk_.symm) ?aF ?aO ?aB ?aS ?aL ?_; (case aP => exact vP (va (vA rfl (va (ok' := fun k_ => ((fun _ => True)) k_ ∧ some k_ ≠ (u4 : Value).ownBlock) (vh (e0.o) (vi d0.o) (by decide)) (fun k_ hk => ⟨trivial, hk.2⟩))) (fun _ h_ => h_))); (case aB => exact (hB_)); (case aF => exact (fun _ _ => trivial)); (case aO => exact (by refine kS_ ?_; exact vk d0.o (fun k_ hk => ⟨trivial, fun e_ => hk.2 e_⟩))); (case aS => exact (au (hB_))); (case aL => have := E0.o; omega); intro e1 j1 ho hb hg hat; rw [← F0.o] at ho; obtain ⟨HB, I0⟩ := b_ (hb) <| c_ (ho); clear ho hb hg hat))
  go_roundg k1
  case measure => have := S0.o; omega
  case rel => exact ⟨(O0), (wrap64 (b0 + 1)), f0_, H', ⟨by have := S0.o; omega⟩, ⟨rS_ I0.o⟩, ⟨hB_⟩⟩
 ·replace K0 := Ea K0
  subst K0
  replace H := iF_ H
  obtain ⟨f1, k0⟩ : ∃ y_ : List (List Int), y_ = (([] : List (List Int))) := ⟨_, rfl⟩
  first | replace H := yb_ k0 H | rw [← k0] at H
  have x0 := c_ k0
  clear k0
  simp only [Option.some.injEq, Prod.mk.injEq] at H
  obtain ⟨rfl, rfl⟩ := H
  go_wp2_with (first | ((with_reducible refine eQ (f := 100) rfl ?_); refine iI (some 21) rfl rfl Tryz.func100 (by kernel_rfl) rfl #[.string (a0.extract ((D0) : Int).toNat ((wrap64 ((wrap64 (b0 + 1)) * 384)) : Int).toNat)] rfl (by (try simp only [List.map_toArray, List.map_cons, List.map_nil]); first | done | (simp only [n0]; rfl) | rfl | (simp only [List.length_drop, List.length_take]; rfl)) ?_; (with_reducible refine (cv.calls k1 (a0.extract ((D0) : Int).toNat ((wrap64 ((wrap64 (b0 + 1)) * 384)) : Int).toNat) p0 false _ A9.o).mono ?_); rintro e l1 ⟨P0, rfl, y0, hb⟩; refine ⟨_, rfl, ?_⟩; obtain ⟨d0, e0, HB⟩ := b_ (vd (rS_ d0.o) (vg y0) hb) <| b_ (vb y0 (au (hB_))) <| sB_; (try clear y0)) | ((refine cO (N := 26) rfl ?_); refine wl (Kd.slice 3 (Kd.int .i64)) _ 45 ?hg (N := 26) ?hd (xs := ([] : List (List Int))) (inner := []) (ok := fun _ => True) (okp := fun _ => True) ?hr ?hp (fun _ hk => hk) trivial (Da _ _) (Ca _) (by simp) ?_; (case hd => rfl); (case hg => rfl); (case hr => first | (go_simp; done) | (go_simp; rfl)); (case hp => exact (eW.none _ _)); intro g1 m1 q0 hb hg_ hnew_; clear hg_ hnew_; (first | rw [← x0.o] at q0 | (simp only [Int.reduceToNat] at q0; rw [← x0.o] at q0)); obtain ⟨d0, e0, J0, HB⟩ := b_ (vd (rS_ d0.o) (vL q0) hb) <| n_ (fR_ e0) <| b_ (vG (vD (vD q0 (wd (rS_ d0.o))) (vE (rR_ e0.o))) (au (hB_))) <| sB_; clear hb q0))
  go_ret2
  exact ⟨_, by first | rfl | (simp [eN, eL] <;> rfl) | (simp only [← n0]; first | rfl | (simp [eN, eL] <;> rfl)) | (simp [*, eN, eL] <;> rfl), by refine kS_ ?_; exact vk J0.o (fun _ hk => trivial), hB_⟩
def br.j0 : Nat → Int → Int → Bool → Option (Int)
 | 0, _, _, _ => none
 | k + 1, x0, x1, x15 => if x15 = true then (some 0) else ((ay.f k (wrap64 (x1 - 1))).bind fun t884 => ((ay.f k x1).bind fun t885 => (if t885 = 0 then (none) else (some (wrap64 (Int.tdiv (wrap64 ((wrap64 (3329 * x0)) + t884)) t885))))))
def br.f (k : Nat) (a0 : Int) (a1 : Int) : Option (Int) := (aX.f a1 1 11).bind fun t881 => (if t881 = true then ((ay.f k a1).bind fun t882 => ((aX.f a0 0 (wrap64 (t882 - 1))).bind fun t883 => (br.j0 k a0 a1 (!t883)))) else (br.j0 k a0 a1 true))
theorem br.mono_l : ∀ k, (∀ y0 y1 y2, LeO (br.j0 k y0 y1 y2) (br.j0 (k + 1) y0 y1 y2))
 | 0 => fun _ _ _ r h => by simp [br.j0] at h
 | k + 1 => by
  have ih0 := br.mono_l k
  intros; unfold br.j0; exact o2_ ih0 ay.mono
theorem br.mono : ∀ a0 a1 k, LeO (br.f k a0 a1) (br.f (k + 1) a0 a1) := by
 intro a0 a1 k
 have ih0 := br.mono_l k
 unfold br.f
 exact o2_ ih0 ay.mono
theorem br.calls (k : Nat) (a0 : Int) (a1 : Int) (r : Int) (w : World) (h : br.f k a0 a1 = some r) :
  Calls Tryz.prog 74 #[.int .i64 a0, .int .i64 a1] w fun e w' => e = .returned (.int .i64 r) ∧ cr w w' := by
 delta br.f at h
 have H := h
 clear h
 have f0 := c_ H
 clear H
 go_enter Tryz.func74, Tryz.ntmps74
 go_upto_region 1 with (fail)
 go_cut [15] (fun r0 wc => ∃ (kq : Nat) (b0 : Bool), r0 = .bool b0 ∧ aa (br.j0 kq a0 a1 b0 = some r) ∧ aa (kq ≤ k) ∧ cr w wc)
 case first =>
  have H := f0.o
  clear f0
  obtain ⟨k0, A4, H⟩ := bN_ H
  by_cases c5 : k0 = true
  ·subst c5
   replace H := iT_ H
   obtain ⟨v0, A6, H⟩ := bN_ H
   obtain ⟨n0, A7, H⟩ := bN_ H
   have H' := c_ H
   clear H
   go_wp2_with (first | (refine gp_ (k_ 6 Tryz.func97) (aX.calls _ _ _ _ _ A4.o) fun nd => ?_) | (go_at_call 98; refine mp_ (ay.calls _ _ _ _ A6.o) fun nd => ?_) | (go_at_call 97; refine mp_ (aX.calls _ _ _ _ _ A7.o) fun nd => ?_))
   go_meet
   case rel => exact ⟨_, (!n0), f0_, H', ⟨by first | omega | exact Ca _⟩, d0_⟩
  ·replace c5 := Ea c5
   subst c5
   replace H := iF_ H
   have H' := c_ H
   clear H
   go_wp2_with (first | (refine gp_ (k_ 6 Tryz.func97) (aX.calls _ _ _ _ _ A4.o) fun nd => ?_))
   go_meet
   case rel => exact ⟨_, (true), f0_, H', ⟨by first | omega | exact Ca _⟩, d0_⟩
 clear f0
 obtain ⟨kq, b0, rfl, HA, B0, ⟨mc2, rfl⟩⟩ := hcut
 rcases kq with _ | C0
 ·exact absurd HA.o (by simp [br.j0])
 have H := HA.o
 clear HA
 simp only [br.j0] at H
 by_cases c8 : b0 = true
 ·subst c8
  replace H := iT_ H
  obtain rfl := Ba H
  go_wp2
  go_ret
  exact ⟨f0_, d0_⟩
 ·replace c8 := Ea c8
  subst c8
  replace H := iF_ H
  obtain ⟨x0, A9, H⟩ := bN_ H
  obtain ⟨d0, y0, H⟩ := bN_ H
  by_cases e0 : d0 = 0
  ·rw [Fa e0] at H
   exact absurd H (by simp)
  rw [Ga e0] at H
  have p0 : (d0 == 0) = false := beq_eq_false_iff_ne.mpr e0
  have q0 : (d0 != 0) = true := bne_iff_ne.mpr e0
  obtain rfl := Ba H
  go_wp2_with (first | (refine gp_ (k_ 20 Tryz.func98) (ay.calls _ _ _ _ A9.o) fun nd => ?_) | (refine gp_ (k_ 23 Tryz.func98) (ay.calls _ _ _ _ y0.o) fun nd => ?_))
  go_ret
  exact ⟨f0_, d0_⟩
def aC.l0 : Nat → Int → List Int → Int → Option (List Int)
 | 0, _, _, _ => none
 | k + 1, x1, x5, x7 => if x7 < (x5.length : Int) then (if 0 ≤ x7 then ((br.f k (rd x5 x7) x1).bind fun t891 => (aC.l0 k x1 (x5.set (x7 : Int).toNat t891) (wrap64 (x7 + 1)))) else (none)) else (some x5)
def aC.f (k : Nat) (a0 : ByteArray) (a1 : Int) : Option (List Int) := (av.f k a0 a1 256).bind fun bt886 => (aC.l0 k a1 bt886.1 0)
theorem aC.mono_l : ∀ k, (∀ y0 y1 y2, LeO (aC.l0 k y0 y1 y2) (aC.l0 (k + 1) y0 y1 y2))
 | 0 => fun _ _ _ r h => by simp [aC.l0] at h
 | k + 1 => by
  have ih0 := aC.mono_l k
  intros; unfold aC.l0; exact o3_ ih0 br.mono av.mono
theorem aC.mono : ∀ a0 a1 k, LeO (aC.f k a0 a1) (aC.f (k + 1) a0 a1) := by
 intro a0 a1 k
 have ih0 := aC.mono_l k
 unfold aC.f
 exact o3_ ih0 br.mono av.mono
theorem aC.calls (k : Nat) (a0 : ByteArray) (a1 : Int) (r : List Int) (w : World) (h : aC.f k a0 a1 = some r) :
  Calls Tryz.prog 71 #[.string a0, .int .i64 a1] w fun e w' => ∃ F0 : Value, e = .returned (F0) ∧ Kd.R (Kd.int .i64) 3 w' w.heap.size (fun _ => True) F0 r ∧ Below w.heap.size w w' := by
 have HB := c_ (Da w.heap.size w)
 delta aC.f at h
 have H := h
 clear h
 obtain ⟨⟨x0, L0⟩, A3, H⟩ := bN_ H
 have H' := c_ H
 clear H
 go_enter Tryz.func71, Tryz.ntmps71
 go_wp2_with (first | (refine gR_ (k_ 11 Tryz.func101) (av.calls _ _ _ _ _ _ _ A3.o) fun y0 w4 ho_ hb => ?_; obtain ⟨p0, HB⟩ := n_ (lR_ ho_) <| sB_))
 go_loopg [7] k (fun kq v7 w' => ∃ (e0 : List Int) (b0 : Int), v7 = .int .i64 b0 ∧ aa (aC.l0 kq a1 e0 b0 = some r) ∧ aa (kq ≤ k) ∧ aa (Kd.R (Kd.int .i64) 3 w' w.heap.size (fun _ => True) y0 e0) ∧ aa (Below w.heap.size w w'))
 case atStart => exact ⟨(x0), (0), f0_, H', ⟨Ca _⟩, ⟨rR_ p0.o⟩, ⟨hB_⟩⟩
 clear H'
 obtain ⟨e0, b0, rfl, HA, G0, d0, HB⟩ := hrel
 rcases gk with _ | k1
 ·exact absurd HA.o (by simp [aC.l0])
 have H := HA.o
 clear HA
 simp only [aC.l0] at H
 by_cases c5 : b0 < (e0.length : Int)
 ·rw [Fa c5] at H
  have B0 := ya c5
  clear c5
  obtain ⟨M0, H⟩ := iD_ H
  obtain ⟨q0, A7, H⟩ := bN_ H
  obtain ⟨C0, f0⟩ : ∃ y_ : List Int, y_ = (e0.set (b0 : Int).toNat q0) := ⟨_, rfl⟩
  first | replace H := yb_ f0 H | rw [← f0] at H
  have r0 := c_ f0
  clear f0
  have H' := c_ H
  clear H
  obtain ⟨S0, N0, O0⟩ := uY d0.o
  subst O0
  have k0 : 0 ≤ (b0 : Int) := oD_
  have n0 : b0 < (e0.length : Int) := oD_
  obtain ⟨v0, D0, j0⟩ := uZ (uX d0.o).2.2 b0 k0 n0
  cases D0
  replace k0 := Aa k0
  replace n0 := Aa n0
  go_wp2_with (first | (refine gp_ (k_ 27 Tryz.func74) (br.calls _ _ _ _ _ A7.o) fun nd => ?_; (try (rw [dh wr]; generalize hq_ : World.drewN wr _ = wr; obtain ⟨d0, HB⟩ := b_ (show Kd.R (Kd.int .i64) 3 wr w.heap.size (fun _ => True) (.slice (some v0) e0.length N0) e0 from by rw [← hq_]; exact (rR_ d0.o)) <| c_ (show Below w.heap.size w wr from by rw [← hq_]; exact (hB_)))); have p8 : 0 ≤ (b0 : Int) := oD_; have q8 : (b0 : Int) < ((e0.length : Int) : Int) := oD_; obtain ⟨go8, T0, H0, I0, gl8, cl8, HG8⟩ := vq d0.o (by omega); (first | cases H0 | (injection H0 with ea_ en_ ec_; (first | subst ea_ | (injection ea_ with ea_; subst ea_)); subst ec_; clear en_)); have P0 := c_ I0; have GG8 := c_ HG8; clear I0 gl8 HG8; (first | simp only [cj] at j0 | skip); obtain ⟨J0, hf8_0⟩ := vc 0 d0.o (b0 : Int) p8 q8; replace p8 := Aa p8; replace q8 := Aa q8; obtain ⟨K0, hz10_⟩ := vc 0 d0.o (b0 : Int) oD_ oD_; have HP10 := vm d0.o (b0 : Int) q0) | ((refine cx (t := 3) (p := 28) rfl ?_); refine st_ 3 28 HP10 r0 P0 fun U0 hw hp_ hg HBn => ?_; obtain ⟨d0, HB⟩ := b_ (hp_) <| c_ HBn.o; clear hg hw hp_))
  go_roundg k1
  case measure => have := G0.o; omega
  case rel => exact ⟨(C0), (wrap64 (b0 + 1)), f0_, H', ⟨by have := G0.o; omega⟩, ⟨rR_ d0.o⟩, ⟨hB_⟩⟩
 rw [Ga c5] at H
 have B0 := za c5
 clear c5
 obtain rfl := Ba H
 obtain ⟨Q0, R0, E0⟩ := uY d0.o
 subst E0
 go_wp2
 go_ret
 exact ⟨_, f1_, rR_ d0.o, hB_⟩
end Go.Proofs.YtmdlpmddljbkeaaGreatDoor.P
