-- printed texts of this session, regrouped
import Derived.Test.YtmiackbomcjboaaGreatDoorPx4
namespace Go.Proofs.YtmiackbomcjboaaGreatDoor.P
open Go.RowKit YtmiackbomcjboaaGreatDoorW.PrintWords YtmiackbomcjboaaGreatDoorW.PrintLast YtmiackbomcjboaaGreatDoorW.PrintMore
open Kd
attribute [local go_sem] d9 eg eV eU dK dL d8 eh
set_option linter.unusedVariables false
set_option linter.unusedSimpArgs false
set_option maxHeartbeats 8000000
set_option maxRecDepth 100000
def bG.l0 : Nat → Int → Int → Int → Option (Int)
 | 0, _, _, _ => none
 | k + 1, x0, x1, x5 => if x1 > 0 then (if (Int.tmod x1 2) = 1 then (bG.l0 k (Int.tmod (wrap64 (x0 * x0)) 3329) (wrap64 (Int.tdiv x1 2)) (Int.tmod (wrap64 (x5 * x0)) 3329)) else (bG.l0 k (Int.tmod (wrap64 (x0 * x0)) 3329) (wrap64 (Int.tdiv x1 2)) x5)) else (some x5)
def bG.f (k : Nat) (a0 : Int) (a1 : Int) : Option (Int) := (b8.f a1 0 1000000000).bind fun t526 => (if t526 = true then ((cd.f a0).bind fun t527 => (bG.l0 k t527 a1 1)) else (some 0))
theorem bG.mono_l : ∀ k, (∀ y0 y1 y2, LeO (bG.l0 k y0 y1 y2) (bG.l0 (k + 1) y0 y1 y2))
 | 0 => fun _ _ _ r h => by simp [bG.l0] at h
 | k + 1 => by
  have ih0 := bG.mono_l k
  intros; unfold bG.l0; exact o1_ ih0
theorem bG.mono : ∀ a0 a1 k, LeO (bG.f k a0 a1) (bG.f (k + 1) a0 a1) := by
 intro a0 a1 k
 have ih0 := bG.mono_l k
 unfold bG.f
 exact o1_ ih0
theorem bG.calls (k : Nat) (a0 : Int) (a1 : Int) (r : Int) (w : World) (h : bG.f k a0 a1 = some r) :
  Calls Tryz.prog 67 #[.int .i64 a0, .int .i64 a1] w fun e w' => e = .returned (.int .i64 r) ∧ cx w w' := by
 delta bG.f at h
 have H := h
 clear h
 obtain ⟨j0, A3, H⟩ := bN_ H
 by_cases c4 : j0 = true
 ·subst c4
  replace H := iT_ H
  obtain ⟨k0, A5, H⟩ := bN_ H
  have H' := c_ H
  clear H
  go_enter Tryz.func67, Tryz.ntmps67
  go_wp2_with (first | (refine gp_ (k_ 7 Tryz.func100) (b8.calls _ _ _ _ _ A3.o) fun nd => ?_) | (refine gp_ (k_ 10 Tryz.func69) (cd.calls _ _ _ A5.o) fun nd => ?_))
  go_loopg [0, 1, 5] k (fun kq v0 v1 v5 w' => ∃ (d0 : Int) (b0 : Int) (e0 : Int), v0 = .int .i64 d0 ∧ v1 = .int .i64 b0 ∧ v5 = .int .i64 e0 ∧ aa (bG.l0 kq d0 b0 e0 = some r) ∧ aa (kq ≤ k) ∧ cx w w')
  case atStart => exact ⟨(k0), (a1), (1), f0_, f0_, f0_, H', ⟨Ca _⟩, d0_⟩
  clear H'
  obtain ⟨d0, b0, e0, rfl, rfl, rfl, HA, f0, ⟨m1, rfl⟩⟩ := hrel
  rcases gk with _ | k1
  ·exact absurd HA.o (by simp [bG.l0])
  have H := HA.o
  clear HA
  simp only [bG.l0] at H
  by_cases c6 : b0 > 0
  ·rw [Fa c6] at H
   have n0 := ya c6
   clear c6
   by_cases c7 : (Int.tmod b0 2) = 1
   ·rw [Fa c7] at H
    have p0 : ((Int.tmod b0 2) == 1) = true := beq_iff_eq.mpr c7
    have q0 : ((Int.tmod b0 2) != 1) = false := bne_eq_false_iff_eq.mpr c7
    clear c7
    have H' := c_ H
    clear H
    go_wp2
    go_roundg k1
    case measure => have := f0.o; omega
    case rel => exact ⟨(Int.tmod (wrap64 (d0 * d0)) 3329), (wrap64 (Int.tdiv b0 2)), (Int.tmod (wrap64 (e0 * d0)) 3329), f0_, f0_, f0_, H', ⟨by have := f0.o; omega⟩, d0_⟩
   rw [Ga c7] at H
   have p0 : ((Int.tmod b0 2) == 1) = false := beq_eq_false_iff_ne.mpr c7
   have q0 : ((Int.tmod b0 2) != 1) = true := bne_iff_ne.mpr c7
   have H' := c_ H
   clear H
   go_wp2
   go_roundg k1
   case measure => have := f0.o; omega
   case rel => exact ⟨(Int.tmod (wrap64 (d0 * d0)) 3329), (wrap64 (Int.tdiv b0 2)), (e0), f0_, f0_, f0_, H', ⟨by have := f0.o; omega⟩, d0_⟩
  rw [Ga c6] at H
  have n0 := za c6
  clear c6
  obtain rfl := Ba H
  go_wp2
  go_ret
  exact ⟨f0_, d0_⟩
 ·replace c4 := Ea c4
  subst c4
  replace H := iF_ H
  obtain rfl := Ba H
  go_enter Tryz.func67, Tryz.ntmps67
  go_wp2_with (first | (refine gp_ (k_ 7 Tryz.func100) (b8.calls _ _ _ _ _ A3.o) fun nd => ?_))
  go_ret
  exact ⟨f0_, d0_⟩
def bD.l0 : Nat → Int → Int → Int → Option (Int)
 | 0, _, _, _ => none
 | k + 1, x0, x3, x5 => if x5 < 7 then (if 0 ≤ x5 then (bD.l0 k x0 (wrap64 ((wrap64 (2 * x3)) + (Go.bits .and .i64 (shr .i64 x0 x5) 1))) (wrap64 (x5 + 1))) else (none)) else (some x3)
def bD.f (k : Nat) (a0 : Int) : Option (Int) := bD.l0 k a0 0 0
theorem bD.mono_l : ∀ k, (∀ y0 y1 y2, LeO (bD.l0 k y0 y1 y2) (bD.l0 (k + 1) y0 y1 y2))
 | 0 => fun _ _ _ r h => by simp [bD.l0] at h
 | k + 1 => by
  have ih0 := bD.mono_l k
  intros; unfold bD.l0; exact o1_ ih0
theorem bD.mono : ∀ a0 k, LeO (bD.f k a0) (bD.f (k + 1) a0) := by
 intro a0 k
 have ih0 := bD.mono_l k
 unfold bD.f
 exact o1_ ih0
theorem bD.calls (k : Nat) (a0 : Int) (r : Int) (w : World) (h : bD.f k a0 = some r) :
  Calls Tryz.prog 68 #[.int .i64 a0] w fun e w' => e = .returned (.int .i64 r) ∧ cx w w' := by
 delta bD.f at h
 have H := h
 clear h
 have H' := c_ H
 clear H
 go_enter Tryz.func68, Tryz.ntmps68
 go_wp2
 go_loopg [3, 5] k (fun kq v3 v5 w' => ∃ (e0 : Int) (b0 : Int), v3 = .int .i64 e0 ∧ v5 = .int .i64 b0 ∧ aa (bD.l0 kq a0 e0 b0 = some r) ∧ aa (kq ≤ k) ∧ cx w w')
 case atStart => exact ⟨(0), (0), f0_, f0_, H', ⟨Ca _⟩, d0_⟩
 clear H'
 obtain ⟨e0, b0, rfl, rfl, HA, k0, ⟨m1, rfl⟩⟩ := hrel
 rcases gk with _ | k1
 ·exact absurd HA.o (by simp [bD.l0])
 have H := HA.o
 clear HA
 simp only [bD.l0] at H
 by_cases c2 : b0 < 7
 ·rw [Fa c2] at H
  have f0 := ya c2
  clear c2
  obtain ⟨c3, H⟩ := iN_ H
  have q0 := Aa c3
  have r0 := ya c3
  clear c3
  obtain ⟨j0, d0⟩ : ∃ j_ : Int, (shr .i64 a0 b0) = j_ := ⟨_, rfl⟩
  first | rw [d0] at H | simp only [d0] at H
  have n0 : (a0 / 2 ^ min b0.toNat 64) = j0 := d0
  have p0 : b0 ≤ 64 → (a0 / 2 ^ b0.toNat) = j0 := gq d0
  have H' := c_ H
  clear H
  go_wp2
  go_roundg k1
  case measure => have := k0.o; omega
  case rel => exact ⟨(wrap64 ((wrap64 (2 * e0)) + (Go.bits .and .i64 (j0) 1))), (wrap64 (b0 + 1)), (by first | rfl | (simp; done) | (simp only [← d0] <;> (first | rfl | simp)) | (simp [*]; done)), f0_, H', ⟨by have := k0.o; omega⟩, d0_⟩
 rw [Ga c2] at H
 have f0 := za c2
 clear c2
 obtain rfl := Ba H
 go_wp2
 go_ret
 exact ⟨f0_, d0_⟩
theorem aU.cell_setCell_drewN (w : World) (n : Nat) (a b : Addr) (v : Value) : ((w.drewN n).setCell a v).cell? b = (w.setCell a v).cell? b := rfl
theorem aU.frozen_setCell (w : World) (a b : Addr) (v : Value) : (w.setCell a v).frozen? b = w.frozen? b := World.frozen?_setCell w a b v
attribute [local go_sem] aU.cell_setCell_drewN
mutual
def aU.l0 : Nat → List Int → Int → Int → Option (List Int)
 | 0, _, _, _ => none
 | k + 1, x3, x4, x5 => if x5 ≥ 2 then (aU.l1 k x3 x4 x5 0) else (some x3)
def aU.l1 : Nat → List Int → Int → Int → Int → Option (List Int)
 | 0, _, _, _, _ => none
 | k + 1, x3, x4, x5, x6 => if x6 < 256 then ((bD.f k x4).bind fun t532 => ((bG.f k 17 t532).bind fun t533 => (aU.l2 k x3 (wrap64 (x4 + 1)) x5 x6 t533 x6))) else (aU.l0 k x3 x4 (wrap64 (Int.tdiv x5 2)))
def aU.l2 : Nat → List Int → Int → Int → Int → Int → Int → Option (List Int)
 | 0, _, _, _, _, _, _ => none
 | k + 1, x3, x4, x5, x6, x7, x8 => if x8 < (wrap64 (x6 + x5)) then (if 0 ≤ (wrap64 (x8 + x5)) then (if (wrap64 (x8 + x5)) < (x3.length : Int) then (if 0 ≤ x8 then (if x8 < (x3.length : Int) then ((cd.f (wrap64 ((rd x3 x8) + (wrap64 (x7 * (rd x3 (wrap64 (x8 + x5)))))))).bind fun t536 => ((cd.f (wrap64 ((rd x3 x8) - (wrap64 (x7 * (rd x3 (wrap64 (x8 + x5)))))))).bind fun t538 => (aU.l2 k ((x3.set (x8 : Int).toNat t536).set ((wrap64 (x8 + x5)) : Int).toNat t538) x4 x5 x6 x7 (wrap64 (x8 + 1))))) else (none)) else (none)) else (none)) else (none)) else (aU.l1 k x3 x4 x5 (wrap64 (x6 + (wrap64 (2 * x5)))))
end
def aU.f (k : Nat) (l0 : List Int) : Option (List Int) := (aw.f k l0).bind fun t528 => (if t528 = true then ((dF.f l0).bind fun t529 => (aU.l0 k t529 1 128)) else (some ([] : List Int)))
theorem aU.mono_l : ∀ k, (∀ y0 y1 y2, LeO (aU.l0 k y0 y1 y2) (aU.l0 (k + 1) y0 y1 y2)) ∧ (∀ y0 y1 y2 y3, LeO (aU.l1 k y0 y1 y2 y3) (aU.l1 (k + 1) y0 y1 y2 y3)) ∧ (∀ y0 y1 y2 y3 y4 y5, LeO (aU.l2 k y0 y1 y2 y3 y4 y5) (aU.l2 (k + 1) y0 y1 y2 y3 y4 y5))
 | 0 => ⟨fun _ _ _ r h => by simp [aU.l0] at h, fun _ _ _ _ r h => by simp [aU.l1] at h, fun _ _ _ _ _ _ r h => by simp [aU.l2] at h⟩
 | k + 1 => by
  obtain ⟨ih0, ih1, ih2⟩ := aU.mono_l k
  refine ⟨?_, ?_, ?_⟩ <;> (intros; (first | unfold aU.l0 | unfold aU.l1 | unfold aU.l2); exact o6_ ih0 ih1 ih2 aw.mono bG.mono bD.mono)
theorem aU.mono : ∀ a0 k, LeO (aU.f k a0) (aU.f (k + 1) a0) := by
 intro a0 k
 obtain ⟨ih0, ih1, ih2⟩ := aU.mono_l k
 unfold aU.f
 exact o6_ ih0 ih1 ih2 aw.mono bG.mono bD.mono
def aU.T17 : Bool × List (List Nat × List Nat) := (true, [([], []), ([], []), ([], []), ([], []), ([], []), ([3, 4], [3, 4]), ([], []), ([], []), ([6, 7], [6, 7]), ([8], [8]), ([], []), ([9, 10], [9, 10]), ([11], [11]), ([], []), ([], []), ([13, 14], [13, 14]), ([15], [15]), ([], []), ([16, 17], [16, 17]), ([18, 12], [18]), ([0, 1, 0, 1, 6, 7, 8, 9, 10, 11, 12, 16, 19], [0, 1]), ([20, 12, 19, 0, 1, 6, 7, 8, 9, 10, 11, 12, 16, 19], [12, 20]), ([2, 5, 0, 1, 2, 3, 4, 5, 6, 7, 8, 9, 10, 11, 12, 13, 14, 15, 16, 17, 18, 19, 20, 21], [2, 5]), ([22, 19, 21, 0, 1, 2, 3, 4, 5, 6, 7, 8, 9, 10, 11, 12, 13, 14, 15, 16, 17, 18, 19, 20, 21], [19, 22])])
def aU.B17 : List Nat := [0, 0, 0, 0, 0, 24, 0, 0, 192, 448, 0, 1984, 4032, 0, 0, 24576, 57344, 0, 253952, 524224, 1048515, 2097091, 4194303, 8388607]
theorem aU.tab17 : eH .any (fJ Tryz.f62 17) = aU.T17 := by kernel_rfl
theorem aU.bits17 : dw aU.T17.2 aU.B17 = true := by kernel_rfl
theorem aU.calls (k : Nat) (A0 : Option Addr) (c0 : Nat) (l0 : List Int) (r : List Int) (w : World) (hr0 : Kd.C (Kd.int .i64) w A0 l0.length l0) (hc0 : l0.length ≤ c0) (h : aU.f k l0 = some r) :
  Calls Tryz.prog 62 #[.slice A0 l0.length c0] w fun e w' => ∃ D1 : Value, e = .returned (D1) ∧ Kd.R (Kd.int .i64) 3 w' w.heap.size (fun _ => True) D1 r ∧ Below w.heap.size w w' := by
 have b1 := c_ hr0
 have c1 := c_ hc0
 clear hr0 hc0
 have HB := c_ (Da w.heap.size w)
 delta aU.f at h
 have H := h
 clear h
 obtain ⟨d1, A2, H⟩ := bN_ H
 by_cases c3 : d1 = true
 ·subst c3
  replace H := iT_ H
  obtain ⟨e1, A4, H⟩ := bN_ H
  have H' := c_ H
  clear H
  go_enter Tryz.func62, Tryz.ntmps62
  go_wp2_with (first | (refine gp_ (k_ 11 Tryz.func65) (aw.calls _ _ _ _ _ _ (cR_ b1.o) c1.o A2.o) fun nd => ?_) | (refine gR_ (k_ 14 Tryz.func66) (dF.calls _ _ _ _ _ (cR_ b1.o) c1.o A4.o) fun E0 w5 ho_ hb => ?_; obtain ⟨Q0, HB⟩ := n_ (lR_ ho_) <| sB_))
  go_loopg [4, 5] k (fun kq v4 v5 w' => ∃ (B0 : List Int) (C0 : Int) (f0 : Int), v4 = .int .i64 C0 ∧ v5 = .int .i64 f0 ∧ aa (aU.l0 kq B0 C0 f0 = some r) ∧ aa (kq ≤ k) ∧ aa (Kd.R (Kd.int .i64) 3 w' w.heap.size (fun _ => True) E0 B0) ∧ aa (Below w.heap.size w w'))
  case atStart => exact ⟨(e1), (1), (128), f0_, f0_, H', ⟨Ca _⟩, ⟨rR_ Q0.o⟩, ⟨hB_⟩⟩
  clear H'
  obtain ⟨B0, C0, f0, rfl, rfl, HA, N0, d0, HB⟩ := hrel
  rcases gk with _ | k1
  ·exact absurd HA.o (by simp [aU.l0])
  have H := HA.o
  clear HA
  simp only [aU.l0] at H
  by_cases c6 : f0 ≥ 2
  rotate_left
  ·rw [Ga c6] at H
   have f1 := za c6
   clear c6
   obtain rfl := Ba H
   go_wp2
   go_ret
   exact ⟨_, f1_, rR_ d0.o, hB_⟩
  rw [Fa c6] at H
  have f1 := ya c6
  clear c6
  have H' := c_ H
  clear H
  go_wp2
  go_loopg [4, 6] k1 (fun kq v4 v6 w' => ∃ (x0 : List Int) (v0 : Int) (n0 : Int), v4 = .int .i64 v0 ∧ v6 = .int .i64 n0 ∧ aa (aU.l1 kq x0 v0 f0 n0 = some r) ∧ aa (kq ≤ k1) ∧ aa (Kd.R (Kd.int .i64) 3 w' w.heap.size (fun _ => True) E0 x0) ∧ aa (Below w.heap.size w w'))
  case atStart => exact ⟨(B0), (C0), (0), f0_, f0_, H', ⟨Ca _⟩, ⟨rR_ d0.o⟩, ⟨hB_⟩⟩
  clear H'
  obtain ⟨x0, v0, n0, rfl, rfl, HA, O0, d0, HB⟩ := hrel
  rcases gk with _ | k2
  ·exact absurd HA.o (by simp [aU.l1])
  have H := HA.o
  clear HA
  simp only [aU.l1] at H
  by_cases c7 : n0 < 256
  rotate_left
  ·rw [Ga c7] at H
   have g1 := za c7
   clear c7
   have H' := c_ H
   clear H
   go_wp2
   go_roundg k2
   case measure => have := N0.o; have := O0.o; omega
   case rel => exact ⟨(x0), (v0), (wrap64 (Int.tdiv f0 2)), f0_, f0_, H', ⟨by have := N0.o; have := O0.o; omega⟩, ⟨rR_ d0.o⟩, ⟨hB_⟩⟩
  rw [Fa c7] at H
  have g1 := ya c7
  clear c7
  obtain ⟨I1, A8, H⟩ := bN_ H
  obtain ⟨y0, A9, H⟩ := bN_ H
  have H' := c_ H
  clear H
  go_wp2_with (first | (refine gp_ (k_ 26 Tryz.func68) (bD.calls _ _ _ _ A8.o) fun nd => ?_) | (refine gp_ (k_ 27 Tryz.func67) (bG.calls _ _ _ _ _ A9.o) fun nd => ?_))
  go_loopg [8] k2 (fun kq v8 w' => ∃ (b0 : List Int) (a0 : Int), v8 = .int .i64 a0 ∧ aa (aU.l2 kq b0 (wrap64 (v0 + 1)) f0 n0 y0 a0 = some r) ∧ aa (kq ≤ k2) ∧ aa (Kd.R (Kd.int .i64) 3 w' w.heap.size (fun _ => True) E0 b0) ∧ aa (Below w.heap.size w w'))
  case atStart => exact ⟨(x0), (n0), f0_, H', ⟨Ca _⟩, ⟨rR_ d0.o⟩, ⟨hB_⟩⟩
  clear H'
  obtain ⟨b0, a0, rfl, HA, Z0, d0, HB⟩ := hrel
  rcases gk with _ | k3
  ·exact absurd HA.o (by simp [aU.l2])
  have H := HA.o
  clear HA
  simp only [aU.l2] at H
  by_cases P0 : a0 < (wrap64 (n0 + f0))
  rotate_left
  ·rw [Ga P0] at H
   have R0 := za P0
   clear P0
   have H' := c_ H
   clear H
   go_wp2
   go_roundg k3
   case measure => have := N0.o; have := O0.o; have := Z0.o; omega
   case rel => exact ⟨(b0), ((wrap64 (v0 + 1))), (wrap64 (n0 + (wrap64 (2 * f0)))), f0_, f0_, H', ⟨by have := N0.o; have := O0.o; have := Z0.o; omega⟩, ⟨rR_ d0.o⟩, ⟨hB_⟩⟩
  rw [Fa P0] at H
  have R0 := ya P0
  clear P0
  obtain ⟨e0, p0⟩ : ∃ j_ : Int, (wrap64 (a0 + f0)) = j_ := ⟨_, rfl⟩
  first | rw [p0] at H | simp only [p0] at H
  have i1 : (IntKind.i64.wrap (a0 + f0)) = e0 := (bB _).trans p0
  obtain ⟨E1, H⟩ := iD_ H
  obtain ⟨F1, H⟩ := iD_ H
  obtain ⟨G1, H⟩ := iD_ H
  obtain ⟨H1, H⟩ := iD_ H
  obtain ⟨F0, J1, H⟩ := bN_ H
  obtain ⟨G0, K1, H⟩ := bN_ H
  obtain ⟨j1, q0⟩ : ∃ y_ : List Int, y_ = (b0.set (a0 : Int).toNat F0) := ⟨_, rfl⟩
  first | replace H := yb_ q0 H | rw [← q0] at H
  have S0 := c_ q0
  clear q0
  obtain ⟨m1, r0⟩ : ∃ y_ : List Int, y_ = (j1.set ((e0) : Int).toNat G0) := ⟨_, rfl⟩
  first | replace H := yb_ r0 H | rw [← r0] at H
  have T0 := c_ r0
  clear r0
  have H' := c_ H
  clear H
  obtain ⟨L1, M1, n1⟩ := uV d0.o
  subst n1
  have H0 : 0 ≤ ((e0) : Int) := oD_
  have I0 : (e0) < (b0.length : Int) := oD_
  obtain ⟨t0, p1, D0⟩ := uX (uU d0.o).2.2 (e0) H0 I0
  cases p1
  replace H0 := Aa H0
  replace I0 := Aa I0
  try go_wp2
  obtain ⟨d0, HB⟩ := b_ (vh d0.o) <| c_ (bE HB.o)
  have J0 : 0 ≤ (a0 : Int) := oD_
  have K0 : a0 < (b0.length : Int) := oD_
  obtain ⟨U0, q1, j0⟩ := uX (uU d0.o).2.2 a0 J0 K0
  obtain rfl : t0 = U0 := (by injection q1)
  replace J0 := Aa J0
  replace K0 := Aa K0
  have L0 : 0 ≤ (a0 : Int) := oD_
  have M0 : a0 < (b0.length : Int) := oD_
  obtain ⟨V0, r1, k0⟩ := uX (uU d0.o).2.2 a0 L0 M0
  obtain rfl : t0 = V0 := (by injection r1)
  replace L0 := Aa L0
  replace M0 := Aa M0
  refine eI (n := 24) (S := fun w' => w'.cell? (t0.add (a0).toNat) = some (.int .i64 (rd b0 a0)) ∧ w'.cell? (t0.add (a0).toNat) = some (.int .i64 (rd b0 a0))) (ds := [21, 23]) (bb_ 24 0) (by kernel_rfl) rfl rfl ⟨j0, k0⟩ (fun hHeld => ?_); refine cW aU.tab17 aU.bits17 (fun HT_ HW_ => ?_)
  generalize wr.drew = O1 at d0 HB j0 k0 hHeld ⊢
  refine pT_ 0 46 24 1 ?_
  refine pT_ 1 47 24 3 ?_
  refine pT_ 2 48 24 7 ?_
  refine pT_ 3 49 24 15 ?_
  refine pT_ 4 50 24 31 ?_
  refine pT_ 5 51 24 63 ?_
  refine pT_ 6 52 24 127 ?_
  refine pT_ 7 53 24 255 ?_
  refine pT_ 8 54 24 511 ?_
  refine pT_ 10 56 24 1535 ?_
  refine pT_ 13 59 24 9727 ?_
  refine pT_ 14 60 24 26111 ?_
  refine pT_ 15 61 24 58879 ?_
  refine pT_ 17 63 24 189951 ?_
  refine tS_ 9 55 (bb_ 24 190463) (bF HT_.o HW_.o (by kernel_rfl)) hHeld ?_
  refine pT_ 11 57 24 192511 ?_
  refine tS_ 16 62 (bb_ 24 258047) (bF HT_.o HW_.o (by kernel_rfl)) hHeld ?_
  refine pT_ 18 64 24 520191 ?_
  refine gh (i := 12) (N := some 58) (bb_ 24 524287) rfl rfl (cO HT_.o (by kernel_rfl)) (by decide) (fun K hK => ?_)
  refine fX Tryz.func69 (by kernel_rfl) rfl #[.int .i64 (wrap64 ((rd b0 a0) + (wrap64 (y0 * (rd b0 (e0))))))] (by rfl) rfl rfl (by (try simp only [List.map_toArray, List.map_cons, List.map_nil]); first | done | (simp only [p0]; rfl) | rfl | (simp only [List.length_drop, List.length_take]; rfl)) ?_
  with_reducible refine (cd.calls (wrap64 ((rd b0 a0) + (wrap64 (y0 * (rd b0 (e0)))))) F0 _ J1.o).mono ?_
  rintro e w' ⟨rfl, ⟨nd, rfl⟩⟩
  refine ⟨_, rfl, ?_⟩
  refine hK _ _ ⟨hHeld.1, hHeld.2⟩ (fun hHeld => ?_)
  clear hK K
  refine er (a' := ?_) ?_ ?_
  rotate_left
  ·show Act.put _ (some 58) _ = _
   simp only [Act.put, List.setIfInBounds_toArray, List.set_cons_zero, List.set_cons_succ, bB, cG]
   rfl
  refine gh (i := 19) (N := some 65) (bb_ 24 1048575) rfl rfl (cO HT_.o (by kernel_rfl)) (by decide) (fun K hK => ?_)
  refine fX Tryz.func69 (by kernel_rfl) rfl #[.int .i64 (wrap64 ((rd b0 a0) - (wrap64 (y0 * (rd b0 (e0))))))] (by rfl) rfl rfl (by (try simp only [List.map_toArray, List.map_cons, List.map_nil]); first | done | (simp only [p0]; rfl) | rfl | (simp only [List.length_drop, List.length_take]; rfl)) ?_
  with_reducible refine (cd.calls (wrap64 ((rd b0 a0) - (wrap64 (y0 * (rd b0 (e0)))))) G0 _ K1.o).mono ?_
  rintro e w' ⟨rfl, ⟨nd, rfl⟩⟩
  refine ⟨_, rfl, ?_⟩
  have t1 : 0 ≤ (a0 : Int) := oD_
  have y1 : (a0 : Int) < ((b0.length : Int) : Int) := oD_
  obtain ⟨go18, N1, W0, X0, gl18, cl18, HG18⟩ := vm d0.o (by omega)
  (first | cases W0 | (injection W0 with ea_ en_ ec_; (first | subst ea_ | (injection ea_ with ea_; subst ea_)); subst ec_; clear en_))
  have Y0 := c_ X0
  have GG18 := c_ HG18
  clear X0 gl18 HG18
  (first | simp only [ch] at D0 | skip)
  (first | simp only [ch] at j0 | skip)
  (first | simp only [ch] at k0 | skip)
  obtain ⟨z1, hf18_0⟩ := uZ 0 d0.o (a0 : Int) t1 y1
  replace t1 := Aa t1
  replace y1 := Aa y1
  have HP22 := vG d0.o (a0 : Int) F0
  rw [← S0.o] at HP22
  have HQ22 := c_ HP22
  clear HP22
  have A1 : 0 ≤ ((e0) : Int) := oD_
  have B1 : ((e0) : Int) < ((b0.length : Int) : Int) := oD_
  obtain ⟨C1, hf19_0⟩ := uZ 0 HQ22.o ((e0) : Int) A1 B1
  (first | simp only [aU.frozen_setCell] at hf19_0 | skip)
  replace A1 := Aa A1
  replace B1 := Aa B1
  have HP23 := vG HQ22.o ((e0) : Int) G0
  rw [← T0.o] at HP23
  have HQ23 := c_ HP23
  clear HP23
  refine hK _ _ ⟨hHeld.1, hHeld.2⟩ (fun hHeld => ?_)
  clear hK K
  refine er (a' := ?_) ?_ ?_
  rotate_left
  ·show Act.put _ (some 65) _ = _
   simp only [Act.put, List.setIfInBounds_toArray, List.set_cons_zero, List.set_cons_succ, bB, cG]
   rfl
  refine pT_ 20 66 24 2097151 ?_
  refine hZ (i := 21) (N := none) (bb_ 24 4194303) rfl rfl (cO HT_.o (by kernel_rfl)) (by decide) (fun K hK => ?_)
  refine js (w1 := ?_) (by rfl) rfl ?_ ?_
  rotate_left
  ·go_simp
   rfl
  refine hK _ _ ?_
  clear hK K
  refine pT_ 22 67 24 8388607 ?_
  refine hZ (i := 23) (N := none) (bb_ 24 16777215) rfl rfl (cO HT_.o (by kernel_rfl)) (by decide) (fun K hK => ?_)
  refine js (w1 := ?_) (by rfl) rfl ?_ ?_
  rotate_left
  ·go_simp
   rfl
  refine hK _ _ ?_
  clear hK K
  refine fK (dN HT_.o (by kernel_rfl)) ?_
  try go_wp2
  go_roundg k3
  case measure => have := N0.o; have := O0.o; have := Z0.o; omega
  case rel => exact ⟨(m1), (wrap64 (a0 + 1)), f0_, H', ⟨by have := N0.o; have := O0.o; have := Z0.o; omega⟩, ⟨rR_ HQ23.o⟩, ⟨(u2_ Y0.o Y0.o)⟩⟩
 ·replace c3 := Ea c3
  subst c3
  replace H := iF_ H
  obtain rfl := Ba H
  go_enter Tryz.func62, Tryz.ntmps62
  go_wp2_with (first | (refine gp_ (k_ 11 Tryz.func65) (aw.calls _ _ _ _ _ _ (cR_ b1.o) c1.o A2.o) fun nd => ?_))
  go_ret
  exact ⟨_, f1_, by first | exact vB _ _ _ _ _ | exact Kd.N_nil _ _ _ _ _ | exact Kd.V_nil _ _ _ _ _ | exact Kd.Q_nil _ _ _ _ _ | exact vC _ _ _ _ _, hB_⟩
def cg.l0 : Nat → List (List Int) → List (List Int) → Int → Int → Option ((List (List Int)))
 | 0, _, _, _, _ => none
 | k + 1, x3, x6, x7, x8 => if x8 < x7 then (if 0 ≤ x8 then (if x8 < (x6.length : Int) then ((aU.f k (dV x6 x8)).bind fun t542 => (if x3.length < 5864062014805 then (cg.l0 k (x3 ++ [t542]) x6 x7 (wrap64 (x8 + 1))) else (none))) else (none)) else (none)) else (some x3)
def cg.f (k : Nat) (l0 : List (List Int)) : Option ((List (List Int))) := cg.l0 k ([] : List (List Int)) l0 (l0.length : Int) 0
theorem cg.mono_l : ∀ k, (∀ y0 y1 y2 y3, LeO (cg.l0 k y0 y1 y2 y3) (cg.l0 (k + 1) y0 y1 y2 y3))
 | 0 => fun _ _ _ _ r h => by simp [cg.l0] at h
 | k + 1 => by
  have ih0 := cg.mono_l k
  intros; unfold cg.l0; exact o2_ ih0 aU.mono
theorem cg.mono : ∀ a0 k, LeO (cg.f k a0) (cg.f (k + 1) a0) := by
 intro a0 k
 have ih0 := cg.mono_l k
 unfold cg.f
 exact o2_ ih0 aU.mono
theorem cg.calls (k : Nat) (A0 : Option Addr) (c0 : Nat) (l0 : List (List Int)) (r : List (List Int)) (w : World) (hr0 : Kd.C (Kd.slice 3 (Kd.int .i64)) w A0 l0.length l0) (hc0 : l0.length ≤ c0) (h : cg.f k l0 = some r) :
  Calls Tryz.prog 31 #[.slice A0 l0.length c0] w fun e w' => ∃ H0 : Value, e = .returned (H0) ∧ Kd.S (Kd.slice 3 (Kd.int .i64)) 33 w' w.heap.size (fun _ => True) H0 r ∧ Below w.heap.size w w' := by
 have M0 := c_ hr0
 have S0 := c_ hc0
 clear hr0 hc0
 have HB := c_ (Da w.heap.size w)
 delta cg.f at h
 have H := h
 clear h
 have H' := c_ H
 clear H
 go_enter Tryz.func31, Tryz.ntmps31
 go_wp2
 go_loopg [3, 8] k (fun kq v3 v8 w' => ∃ (k0 : List (List Int)) (a0 : Int), v8 = .int .i64 a0 ∧ aa (cg.l0 kq k0 l0 (l0.length : Int) a0 = some r) ∧ aa (kq ≤ k) ∧ aa (Kd.S (Kd.slice 3 (Kd.int .i64)) 33 w' w.heap.size (fun _ => True) v3 k0) ∧ aa (Below w.heap.size w w'))
 case atStart => exact ⟨(([] : List (List Int))), (0), f0_, H', ⟨Ca _⟩, ⟨by first | exact vC _ _ _ _ _ | exact Kd.N_nil _ _ _ _ _ | exact Kd.V_nil _ _ _ _ _ | exact Kd.Q_nil _ _ _ _ _ | exact vB _ _ _ _ _⟩, ⟨hB_⟩⟩
 clear H'
 obtain ⟨k0, a0, rfl, HA, I0, j0, HB⟩ := hrel
 rcases gk with _ | k1
 ·exact absurd HA.o (by simp [cg.l0])
 have H := HA.o
 clear HA
 simp only [cg.l0] at H
 by_cases c2 : a0 < (l0.length : Int)
 rotate_left
 ·rw [Ga c2] at H
  have B0 := za c2
  clear c2
  obtain rfl := Ba H
  go_wp2
  go_ret
  exact ⟨_, f1_, by refine kS_ ?_; exact j0.o, hB_⟩
 rw [Fa c2] at H
 have B0 := ya c2
 clear c2
 obtain ⟨N0, H⟩ := iD_ H
 obtain ⟨O0, H⟩ := iD_ H
 obtain ⟨p0, A5, H⟩ := bN_ H
 obtain ⟨c6, H⟩ := iN_ H
 have C0 := c_ c6
 clear c6
 obtain ⟨D0, b0⟩ : ∃ y_ : List (List Int), y_ = (k0 ++ [p0]) := ⟨_, rfl⟩
 first | replace H := yb_ b0 H | rw [← b0] at H
 have x0 := c_ b0
 clear b0
 have H' := c_ H
 clear H
 have t0 : 0 ≤ (a0 : Int) := oD_
 have v0 : a0 < (l0.length : Int) := oD_
 obtain ⟨J0, E0, F0, G0, d0, e0, f0⟩ := mr M0.o a0 t0 v0
 cases G0
 replace d0 := hc_ d0
 have q0 := c_ f0
 have r0 := c_ e0
 clear f0 e0
 replace t0 := Aa t0
 replace v0 := Aa v0
 go_wp2_with (first | (refine gR_ (k_ 14 Tryz.func62) (aU.calls _ _ _ _ _ _ (cR_ (vb q0.o HB.o)) r0.o A5.o) fun P0 w7 ho_ hb => ?_; obtain ⟨j0, n0, HB⟩ := n_ (dr j0) <| n_ (lR_ ho_) <| sB_; obtain ⟨K0, L0, Q0⟩ := uV n0.o; subst Q0) | ((refine cr (b := .append) (xs := #[.tmp 12, .tmp 15]) rfl ?_); at_builtin; refine vu (Kd.slice 3 (Kd.int .i64)) (w0 := w) w.heap.size rfl (.tmp 12) (.tmp 15) 44 33 (.slice none 0 0) 24 rfl Tryz.underlying44 gu rfl (by decide) (by omega) u3 k0 p0 [.slice K0 p0.length L0] (fun _ => True) (fun k_ => some k_ = (.slice K0 p0.length L0 : Value).ownBlock) rfl rfl ?aP (fun k_ hk_ => ((uW (ok' := fun k_ => ((fun _ => True)) k_ ∧ some k_ ≠ (u3 : Value).ownBlock) (va (n0.o) (ve j0.o) (by decide)) (fun k_ hk => ⟨trivial, hk.2⟩))).1 k_ hk_.symm) ?aF ?aO ?aB ?aS ?aL ?_; (case aP => exact vY (uW (vx rfl (uW (ok' := fun k_ => ((fun _ => True)) k_ ∧ some k_ ≠ (u3 : Value).ownBlock) (va (n0.o) (ve j0.o) (by decide)) (fun k_ hk => ⟨trivial, hk.2⟩))) (fun _ h_ => h_))); (case aB => exact (hB_)); (case aF => exact (fun _ _ => trivial)); (case aO => exact (by refine kS_ ?_; exact vi j0.o (fun k_ hk => ⟨trivial, fun e_ => hk.2 e_⟩))); (case aS => exact (av (hB_))); (case aL => have := C0.o; omega); intro R0 w8 ho hb hg hat; rw [← x0.o] at ho; obtain ⟨HB, y0⟩ := b_ (hb) <| c_ (ho); clear ho hb hg hat))
 go_roundg k1
 case measure => have := I0.o; omega
 case rel => exact ⟨(D0), (wrap64 (a0 + 1)), f0_, H', ⟨by have := I0.o; omega⟩, ⟨rS_ y0.o⟩, ⟨hB_⟩⟩
def bO.l0 : Nat → Int → Int → Int → Option (Int)
 | 0, _, _, _ => none
 | k + 1, x3, x4, x5 => if x5 < x4 then (if (wrap64 (x3 * 2)) ≥ 256 then (bO.l0 k (Go.bits .and .i64 (Go.bits .xor .i64 (wrap64 (x3 * 2)) 113) 255) x4 (wrap64 (x5 + 1))) else (bO.l0 k (wrap64 (x3 * 2)) x4 (wrap64 (x5 + 1)))) else (some (IntKind.u64.wrap (Go.bits .and .i64 x3 1)))
def bO.f (k : Nat) (a0 : Int) : Option (Int) := bO.l0 k 1 a0 0
theorem bO.mono_l : ∀ k, (∀ y0 y1 y2, LeO (bO.l0 k y0 y1 y2) (bO.l0 (k + 1) y0 y1 y2))
 | 0 => fun _ _ _ r h => by simp [bO.l0] at h
 | k + 1 => by
  have ih0 := bO.mono_l k
  intros; unfold bO.l0; exact o1_ ih0
theorem bO.mono : ∀ a0 k, LeO (bO.f k a0) (bO.f (k + 1) a0) := by
 intro a0 k
 have ih0 := bO.mono_l k
 unfold bO.f
 exact o1_ ih0
theorem bO.calls (k : Nat) (a0 : Int) (r : Int) (w : World) (h : bO.f k a0 = some r) :
  Calls Tryz.prog 132 #[.int .i64 a0] w fun e w' => e = .returned (.int .u64 r) ∧ cx w w' := by
 delta bO.f at h
 have H := h
 clear h
 have H' := c_ H
 clear H
 go_enter Tryz.func132, Tryz.ntmps132
 go_wp2
 go_loopg [3, 5] k (fun kq v3 v5 w' => ∃ (b0 : Int) (d0 : Int), v3 = .int .i64 b0 ∧ v5 = .int .i64 d0 ∧ aa (bO.l0 kq b0 a0 d0 = some r) ∧ aa (kq ≤ k) ∧ cx w w')
 case atStart => exact ⟨(1), (0), f0_, f0_, H', ⟨Ca _⟩, d0_⟩
 clear H'
 obtain ⟨b0, d0, rfl, rfl, HA, e0, ⟨m1, rfl⟩⟩ := hrel
 rcases gk with _ | k1
 ·exact absurd HA.o (by simp [bO.l0])
 have H := HA.o
 clear HA
 simp only [bO.l0] at H
 by_cases c2 : d0 < a0
 ·rw [Fa c2] at H
  have f0 := ya c2
  clear c2
  by_cases c3 : (wrap64 (b0 * 2)) ≥ 256
  ·rw [Fa c3] at H
   have j0 := ya c3
   clear c3
   have H' := c_ H
   clear H
   go_wp2
   go_roundg k1
   case measure => have := e0.o; omega
   case rel => exact ⟨(Go.bits .and .i64 (Go.bits .xor .i64 (wrap64 (b0 * 2)) 113) 255), (wrap64 (d0 + 1)), f0_, f0_, H', ⟨by have := e0.o; omega⟩, d0_⟩
  rw [Ga c3] at H
  have j0 := za c3
  clear c3
  have H' := c_ H
  clear H
  go_wp2
  go_roundg k1
  case measure => have := e0.o; omega
  case rel => exact ⟨(wrap64 (b0 * 2)), (wrap64 (d0 + 1)), f0_, f0_, H', ⟨by have := e0.o; omega⟩, d0_⟩
 rw [Ga c2] at H
 have f0 := za c2
 clear c2
 obtain rfl := Ba H
 go_wp2
 go_ret
 exact ⟨f0_, d0_⟩
def bI.l0 : Nat → Int → Int → Int → Option (Int)
 | 0, _, _, _ => none
 | k + 1, x0, x3, x5 => if x5 < 7 then ((bO.f k (wrap64 (x5 + (wrap64 (7 * x0))))).bind fun t548 => (if 0 ≤ x5 then (if 0 ≤ (IntKind.u64.wrap ((shl .u64 1 x5) - 1)) then (bI.l0 k x0 (Go.bits .or .u64 x3 (shl .u64 t548 (IntKind.u64.wrap ((shl .u64 1 x5) - 1)))) (wrap64 (x5 + 1))) else (none)) else (none))) else (some x3)
def bI.f (k : Nat) (a0 : Int) : Option (Int) := bI.l0 k a0 0 0
theorem bI.mono_l : ∀ k, (∀ y0 y1 y2, LeO (bI.l0 k y0 y1 y2) (bI.l0 (k + 1) y0 y1 y2))
 | 0 => fun _ _ _ r h => by simp [bI.l0] at h
 | k + 1 => by
  have ih0 := bI.mono_l k
  intros; unfold bI.l0; exact o2_ ih0 bO.mono
theorem bI.mono : ∀ a0 k, LeO (bI.f k a0) (bI.f (k + 1) a0) := by
 intro a0 k
 have ih0 := bI.mono_l k
 unfold bI.f
 exact o2_ ih0 bO.mono
theorem bI.calls (k : Nat) (a0 : Int) (r : Int) (w : World) (h : bI.f k a0 = some r) :
  Calls Tryz.prog 129 #[.int .i64 a0] w fun e w' => e = .returned (.int .u64 r) ∧ cx w w' := by
 delta bI.f at h
 have H := h
 clear h
 have H' := c_ H
 clear H
 go_enter Tryz.func129, Tryz.ntmps129
 go_wp2
 repeat (go_quiet (fail); try go_wp2)
 go_loopg [3, 5] k (fun kq v3 v5 w' => ∃ (f0 : Int) (b0 : Int), v3 = .int .u64 f0 ∧ v5 = .int .i64 b0 ∧ aa (bI.l0 kq a0 f0 b0 = some r) ∧ aa (kq ≤ k) ∧ cx w w')
 case atStart => exact ⟨(0), (0), f0_, f0_, H', ⟨Ca _⟩, d0_⟩
 clear H'
 obtain ⟨f0, b0, rfl, rfl, HA, x0, ⟨m1, rfl⟩⟩ := hrel
 rcases gk with _ | k1
 ·exact absurd HA.o (by simp [bI.l0])
 have H := HA.o
 clear HA
 simp only [bI.l0] at H
 by_cases c2 : b0 < 7
 rotate_left
 ·rw [Ga c2] at H
  have t0 := za c2
  clear c2
  obtain rfl := Ba H
  go_wp2
  repeat (go_quiet (fail); try go_wp2)
  go_ret
  exact ⟨f0_, d0_⟩
 rw [Fa c2] at H
 have t0 := ya c2
 clear c2
 obtain ⟨j0, A3, H⟩ := bN_ H
 obtain ⟨c4, H⟩ := iN_ H
 have C0 := Aa c4
 have D0 := ya c4
 clear c4
 obtain ⟨n0, e0⟩ : ∃ j_ : Int, (shl .u64 1 b0) = j_ := ⟨_, rfl⟩
 first | rw [e0] at H | simp only [e0] at H
 (try rw [e0] at A3)
 have p0 : (IntKind.u64.wrap (1 * 2 ^ min b0.toNat 64)) = n0 := e0
 have q0 : b0 ≤ 64 → (IntKind.u64.wrap (1 * 2 ^ b0.toNat)) = n0 := fI e0
 have hji5u : (IntKind.u64.wrap (2 ^ min b0.toNat 64)) = n0 := by have h_ := p0; rw [Int.one_mul] at h_; exact h_
 have hji5v : b0 ≤ 64 → (IntKind.u64.wrap (2 ^ b0.toNat)) = n0 := fun hle_ => by have h_ := q0 hle_; rw [Int.one_mul] at h_; exact h_
 obtain ⟨r0, k0⟩ : ∃ j_ : Int, (IntKind.u64.wrap ((n0) - 1)) = j_ := ⟨_, rfl⟩
 first | rw [k0] at H | simp only [k0] at H
 (try rw [k0] at A3)
 obtain ⟨c7, H⟩ := iN_ H
 have E0 := Aa c7
 have F0 := ya c7
 clear c7
 obtain ⟨v0, d0⟩ : ∃ j_ : Int, (shl .u64 j0 (r0)) = j_ := ⟨_, rfl⟩
 first | rw [d0] at H | simp only [d0] at H
 (try rw [d0] at A3)
 have y0 : (IntKind.u64.wrap (j0 * 2 ^ min (r0).toNat 64)) = v0 := d0
 have B0 : (r0) ≤ 64 → (IntKind.u64.wrap (j0 * 2 ^ (r0).toNat)) = v0 := fI d0
 have H' := c_ H
 clear H
 go_wp2_with (first | (go_at_call 132; refine mp_ (bO.calls _ _ _ _ A3.o) fun nd => ?_; (try exact dD_)))
 repeat (go_quiet (first | (go_at_call 132; refine mp_ (bO.calls _ _ _ _ A3.o) fun nd => ?_; (try exact dD_))); try go_wp2)
 go_roundg k1
 case measure => have := x0.o; omega
 case rel => exact ⟨(Go.bits .or .u64 f0 (v0)), (wrap64 (b0 + 1)), (by first | rfl | (simp; done) | (simp only [← d0] <;> (first | rfl | simp)) | (simp [*]; done)), f0_, H', ⟨by have := x0.o; omega⟩, d0_⟩
-- NOT PRINTED: function 120 (cP)
-- NOT PRINTED: function 121 (dl)
-- NOT PRINTED: function 122 (impl_lanes_text)
-- GIVEN: function 114 (dQ)
-- GIVEN: function 113 (dk)
def cX.f (a0 : Int) : Option (ByteArray) := some (strOfNums (([(a0) % 256] : List Int)))
theorem cX.calls (a0 : Int) (r : ByteArray) (w : World) (h : cX.f a0 = some r) :
  Calls Tryz.prog 74 #[.int .i64 a0] w fun e w' => e = .returned (.string r) ∧ Below w.heap.size w w' := by
 have HB := c_ (Da w.heap.size w)
 delta cX.f at h
 have H := h
 clear h
 obtain ⟨f0, b0⟩ : ∃ y_ : List Int, y_ = (([(a0) % 256] : List Int)) := ⟨_, rfl⟩
 first | replace H := yb_ b0 H | rw [← b0] at H
 have d0 := c_ b0
 clear b0
 obtain rfl := Ba H
 go_enter Tryz.func74, Tryz.ntmps74
 go_wp2_with (first | (refine lj_ 5 .u8 5 d0 fun j0 w2 e0 HB => ?_; have k0 := d4 (P := Tryz.prog) Tryz.underlying22 Tryz.underlying5 Tryz.underlying9 (vl e0.o)))
 go_ret
 exact ⟨f1_, hB_⟩
def eB.f (a0 : Int) (a1 : Int) : Option (Int) := some (wrap64 (a0 + a1))
theorem eB.calls (a0 : Int) (a1 : Int) (r : Int) (w : World) (h : eB.f a0 a1 = some r) :
  Calls Tryz.prog 64 #[.int .i64 a0, .int .i64 a1] w fun e w' => e = .returned (.int .i64 r) ∧ cx w w' := by
 delta eB.f at h
 have H := h
 clear h
 obtain rfl := Ba H
 go_enter Tryz.func64, Tryz.ntmps64
 go_wp2
 go_ret
 exact ⟨f0_, d0_⟩
mutual
def ai.j0 : Nat → List Int → List Int → Bool → Option (List Int)
 | 0, _, _, _ => none
 | k + 1, x0, x1, x16 => if x16 = true then (some ([] : List Int)) else (if 256 ≤ 35184372088832 then ((some (List.replicate 256 0 : List Int)).bind fun y582 => (ai.l0 k x0 x1 y582 (y582.length : Int) 0)) else (none))
def ai.l0 : Nat → List Int → List Int → List Int → Int → Int → Option (List Int)
 | 0, _, _, _, _, _ => none
 | k + 1, x0, x1, x7, x19, x20 => if x20 < x19 then (if 0 ≤ x20 then (if x20 < (x0.length : Int) then (if x20 < (x1.length : Int) then ((eB.f (rd x0 x20) (rd x1 x20)).bind fun t587 => ((cd.f t587).bind fun t588 => (if x20 < (x7.length : Int) then (ai.l0 k x0 x1 (x7.set (x20 : Int).toNat t588) x19 (wrap64 (x20 + 1))) else (none)))) else (none)) else (none)) else (none)) else (some x7)
end
def ai.f (k : Nat) (l0 : List Int) (l1 : List Int) : Option (List Int) := (aw.f k l0).bind fun t580 => (if t580 = true then ((aw.f k l1).bind fun t581 => (ai.j0 k l0 l1 (!t581))) else (ai.j0 k l0 l1 true))
theorem ai.mono_l : ∀ k, (∀ y0 y1 y2, LeO (ai.j0 k y0 y1 y2) (ai.j0 (k + 1) y0 y1 y2)) ∧ (∀ y0 y1 y2 y3 y4, LeO (ai.l0 k y0 y1 y2 y3 y4) (ai.l0 (k + 1) y0 y1 y2 y3 y4))
 | 0 => ⟨fun _ _ _ r h => by simp [ai.j0] at h, fun _ _ _ _ _ r h => by simp [ai.l0] at h⟩
 | k + 1 => by
  obtain ⟨ih0, ih1⟩ := ai.mono_l k
  refine ⟨?_, ?_⟩ <;> (intros; (first | unfold ai.j0 | unfold ai.l0); exact o3_ ih0 ih1 aw.mono)
theorem ai.mono : ∀ a0 a1 k, LeO (ai.f k a0 a1) (ai.f (k + 1) a0 a1) := by
 intro a0 a1 k
 obtain ⟨ih0, ih1⟩ := ai.mono_l k
 unfold ai.f
 exact o3_ ih0 ih1 aw.mono
def ai.T7 : Bool × List (List Nat × List Nat) := (true, [([], []), ([], []), ([], []), ([], []), ([], []), ([3, 4], [3, 4]), ([5], [5]), ([], []), ([], []), ([7, 8], [7, 8]), ([9], [9]), ([2, 6, 10], [2, 6, 10]), ([11, 11], [11]), ([0, 1, 0, 1, 2, 3, 4, 5, 6, 7, 8, 9, 10, 11, 12], [0, 1]), ([13, 12, 12, 0, 1, 2, 3, 4, 5, 6, 7, 8, 9, 10, 11, 12], [12, 13])])
def ai.B7 : List Nat := [0, 0, 0, 0, 0, 24, 56, 0, 0, 384, 896, 2044, 4092, 8191, 16383]
theorem ai.tab7 : eH .any (fJ Tryz.f63 7) = ai.T7 := by kernel_rfl
theorem ai.bits7 : dw ai.T7.2 ai.B7 = true := by kernel_rfl
theorem ai.calls (k : Nat) (A0 : Option Addr) (c0 : Nat) (l0 : List Int) (A1 : Option Addr) (c1 : Nat) (l1 : List Int) (r : List Int) (w : World) (hr0 : Kd.C (Kd.int .i64) w A0 l0.length l0) (hc0 : l0.length ≤ c0) (hr1 : Kd.C (Kd.int .i64) w A1 l1.length l1) (hc1 : l1.length ≤ c1) (h : ai.f k l0 l1 = some r) :
  Calls Tryz.prog 63 #[.slice A0 l0.length c0, .slice A1 l1.length c1, .func (.func 64) #[] #[]] w fun e w' => ∃ j1 : Value, e = .returned (j1) ∧ Kd.R (Kd.int .i64) 3 w' w.heap.size (fun _ => True) j1 r ∧ Below w.heap.size w w' := by
 have S0 := c_ hr0
 have m1 := c_ hc0
 clear hr0 hc0
 have n1 := c_ hr1
 have C1 := c_ hc1
 clear hr1 hc1
 have HB := c_ (Da w.heap.size w)
 delta ai.f at h
 have H := h
 clear h
 have T0 := c_ H
 clear H
 go_enter Tryz.func63, Tryz.ntmps63
 go_upto_region 1 with (fail)
 go_cut [16] (fun D1 wc => ∃ (kq : Nat) (p0 : Bool), D1 = .bool p0 ∧ aa (ai.j0 kq l0 l1 p0 = some r) ∧ aa (kq ≤ k) ∧ aa (Below w.heap.size w wc))
 case first =>
  have H := T0.o
  clear T0
  obtain ⟨U0, A4, H⟩ := bN_ H
  by_cases c5 : U0 = true
  ·subst c5
   replace H := iT_ H
   obtain ⟨V0, A6, H⟩ := bN_ H
   have H' := c_ H
   clear H
   go_wp2_with (first | (refine gp_ (k_ 10 Tryz.func65) (aw.calls _ _ _ _ _ _ (cR_ (vb S0.o HB.o)) m1.o A4.o) fun nd => ?_) | (go_at_call 65; refine mp_ (aw.calls _ _ _ _ _ _ (cR_ (vb n1.o (hB_))) C1.o A6.o) fun nd => ?_))
   go_meet
   case rel => exact ⟨_, (!V0), f0_, H', ⟨by first | omega | exact Ca _⟩, ⟨hB_⟩⟩
  ·replace c5 := Ea c5
   subst c5
   replace H := iF_ H
   have H' := c_ H
   clear H
   go_wp2_with (first | (refine gp_ (k_ 10 Tryz.func65) (aw.calls _ _ _ _ _ _ (cR_ (vb S0.o HB.o)) m1.o A4.o) fun nd => ?_))
   go_meet
   case rel => exact ⟨_, (true), f0_, H', ⟨by first | omega | exact Ca _⟩, ⟨hB_⟩⟩
 clear T0
 obtain ⟨kq, p0, rfl, HA, p1, HB⟩ := hcut
 rcases kq with _ | q1
 ·exact absurd HA.o (by simp [ai.j0])
 have H := HA.o
 clear HA
 simp only [ai.j0] at H
 by_cases c7 : p0 = true
 ·subst c7
  replace H := iT_ H
  obtain rfl := Ba H
  go_wp2
  go_ret
  exact ⟨_, f1_, by first | exact vB _ _ _ _ _ | exact Kd.N_nil _ _ _ _ _ | exact Kd.V_nil _ _ _ _ _ | exact Kd.Q_nil _ _ _ _ _ | exact vC _ _ _ _ _, hB_⟩
 ·replace c7 := Ea c7
  subst c7
  replace H := iF_ H
  obtain ⟨c8, H⟩ := iN_ H
  have E1 := Aa c8
  have F1 := ya c8
  clear c8
  obtain ⟨y0, q0⟩ : ∃ y_ : List Int, y_ = (List.replicate 256 0) := ⟨_, rfl⟩
  first | replace H := yb_ q0 H | rw [← q0] at H
  have B0 := c_ q0
  clear q0
  have H' := c_ H
  clear H
  go_wp2_with (first | ((refine cQ (N := 17) rfl ?_); refine vs (Kd.int .i64) _ 3 rfl (N := 17) rfl 33 _ _ rfl 256 rfl rfl Tryz.underlying33 (.int .i64 0) 8 di rfl (by decide) (by omega) 0 (ok := fun _ => True) (okp := fun _ => True) rfl (fun _ hk => hk) trivial (by omega) (by omega) (Da _ _) (Ca _) ?_; intro G1 w9 t0 hb hg_ hnew_; clear hg_ hnew_; (first | rw [← B0.o] at t0 | (simp only [Int.reduceToNat] at t0; rw [← B0.o] at t0)); obtain ⟨C0, HB⟩ := b_ (uY t0 (av (hB_))) <| sB_; clear hb t0; obtain ⟨W0, X0, Y0⟩ := uV C0.o; subst Y0))
  go_loopg [20] q1 (fun kq H1 w' => ∃ (v0 : List Int) (a0 : Int), H1 = .int .i64 a0 ∧ aa (ai.l0 kq l0 l1 v0 (y0.length : Int) a0 = some r) ∧ aa (kq ≤ q1) ∧ aa (Kd.R (Kd.int .i64) 3 w' w.heap.size (fun _ => True) (.slice W0 y0.length X0) v0) ∧ aa (Below w.heap.size w w'))
  case atStart => exact ⟨(y0), (0), f0_, H', ⟨Ca _⟩, ⟨rR_ C0.o⟩, ⟨hB_⟩⟩
  clear H'
  obtain ⟨v0, a0, rfl, HA, r1, f0, HB⟩ := hrel
  have b0 := (uU f0.o).1
  rw [b0] at f0
  (try simp only [b0])
  rcases gk with _ | k2
  ·exact absurd HA.o (by simp [ai.l0])
  have H := HA.o
  clear HA
  simp only [ai.l0] at H
  by_cases J0 : a0 < (y0.length : Int)
  rotate_left
  ·rw [Ga J0] at H
   have x0 := za J0
   (try simp only [b0] at x0)
   clear J0
   obtain rfl := Ba H
   go_wp2
   go_ret
   exact ⟨_, f1_, rR_ f0.o, hB_⟩
  rw [Fa J0] at H
  have x0 := ya J0
  (try simp only [b0] at x0)
  clear J0
  obtain ⟨t1, H⟩ := iD_ H
  obtain ⟨y1, H⟩ := iN_ H
  have K0 := ya y1
  (try simp only [b0] at K0)
  clear y1
  obtain ⟨z1, H⟩ := iN_ H
  have L0 := ya z1
  (try simp only [b0] at L0)
  clear z1
  obtain ⟨D0, I1, H⟩ := bN_ H
  obtain ⟨E0, J1, H⟩ := bN_ H
  obtain ⟨B1, H⟩ := iN_ H
  have M0 := ya B1
  (try simp only [b0] at M0)
  clear B1
  obtain ⟨Z0, r0⟩ : ∃ y_ : List Int, y_ = (v0.set (a0 : Int).toNat E0) := ⟨_, rfl⟩
  first | replace H := yb_ r0 H | rw [← r0] at H
  have N0 := c_ r0
  clear r0
  have H' := c_ H
  clear H
  try go_wp2
  obtain ⟨f0, HB⟩ := b_ (vh f0.o) <| c_ (bE HB.o)
  have F0 : 0 ≤ (a0 : Int) := oD_
  have G0 : a0 < (l0.length : Int) := oD_
  obtain ⟨O0, b1, d0⟩ := uX S0.o a0 F0 G0
  have k0 := d0
  cases b1
  replace d0 := hc_ d0
  replace F0 := Aa F0
  replace G0 := Aa G0
  have H0 : 0 ≤ (a0 : Int) := oD_
  have I0 : a0 < (l1.length : Int) := oD_
  obtain ⟨P0, d1, e0⟩ := uX n1.o a0 H0 I0
  have n0 := e0
  cases d1
  replace e0 := hc_ e0
  replace H0 := Aa H0
  replace I0 := Aa I0
  refine eI (n := 15) (S := fun w' => w'.cell? (O0.add (a0).toNat) = some (.int .i64 (rd l0 a0)) ∧ w'.cell? (P0.add (a0).toNat) = some (.int .i64 (rd l1 a0))) (ds := [14]) (bb_ 15 0) (by kernel_rfl) rfl rfl ⟨(hc_ k0), (hc_ n0)⟩ (fun hHeld => ?_); refine cW ai.tab7 ai.bits7 (fun HT_ HW_ => ?_)
  generalize wr.drew = L1 at f0 HB d0 e0 hHeld ⊢
  refine pT_ 0 23 15 1 ?_
  refine pT_ 1 24 15 3 ?_
  refine pT_ 2 25 15 7 ?_
  refine pT_ 3 26 15 15 ?_
  refine pT_ 4 27 15 31 ?_
  refine pT_ 5 28 15 63 ?_
  refine pT_ 7 30 15 191 ?_
  refine pT_ 8 31 15 447 ?_
  refine pT_ 9 32 15 959 ?_
  refine tS_ 6 29 (bb_ 15 1023) (bF HT_.o HW_.o (by kernel_rfl)) hHeld ?_
  refine tS_ 10 33 (bb_ 15 2047) (bF HT_.o HW_.o (by kernel_rfl)) hHeld ?_
  refine gh (i := 11) (N := some 34) (bb_ 15 4095) rfl rfl (cO HT_.o (by kernel_rfl)) (by decide) (fun K hK => ?_)
  refine Go.Proofs.YtmiackbomcjboaaGreatDoor.Kit.goesW_ (.tmp 25) Tryz.func64 (by kernel_rfl) rfl #[.int .i64 (rd l0 a0), .int .i64 (rd l1 a0)] (by rfl) rfl rfl aM_ (by first | rfl | (simp; done)) ?_
  with_reducible refine (eB.calls (rd l0 a0) (rd l1 a0) D0 _ I1.o).mono ?_
  rintro e w' ⟨rfl, ⟨nd, rfl⟩⟩
  refine ⟨_, rfl, ?_⟩
  refine hK _ _ ⟨(hc_ k0), (hc_ n0)⟩ (fun hHeld => ?_)
  clear hK K
  refine er (a' := ?_) ?_ ?_
  rotate_left
  ·show Act.put _ (some 34) _ = _
   simp only [Act.put, List.setIfInBounds_toArray, List.set_cons_zero, List.set_cons_succ, bB, cG]
   rfl
  refine gh (i := 12) (N := some 35) (bb_ 15 8191) rfl rfl (cO HT_.o (by kernel_rfl)) (by decide) (fun K hK => ?_)
  refine fX Tryz.func69 (by kernel_rfl) rfl #[.int .i64 D0] (by rfl) rfl rfl aM_ ?_
  with_reducible refine (cd.calls D0 E0 _ J1.o).mono ?_
  rintro e w' ⟨rfl, ⟨nd, rfl⟩⟩
  refine ⟨_, rfl, ?_⟩
  have e1 : 0 ≤ (a0 : Int) := oD_
  have f1 : (a0 : Int) < ((v0.length : Int) : Int) := oD_
  obtain ⟨go19, K1, Q0, R0, gl19, cl19, HG19⟩ := vm f0.o (by omega)
  (first | cases Q0 | (injection Q0 with ea_ en_ ec_; (first | subst ea_ | (injection ea_ with ea_; subst ea_)); subst ec_; clear en_))
  have g1 := c_ R0
  have GG19 := c_ HG19
  clear R0 gl19 HG19
  obtain ⟨i1, hf19_0⟩ := uZ 0 f0.o (a0 : Int) e1 f1
  replace e1 := Aa e1
  replace f1 := Aa f1
  have HP21 := vG f0.o (a0 : Int) E0
  rw [← N0.o] at HP21
  have HQ21 := c_ HP21
  clear HP21
  refine hK _ _ ⟨(hc_ k0), (hc_ n0)⟩ (fun hHeld => ?_)
  clear hK K
  refine er (a' := ?_) ?_ ?_
  rotate_left
  ·show Act.put _ (some 35) _ = _
   simp only [Act.put, List.setIfInBounds_toArray, List.set_cons_zero, List.set_cons_succ, bB, cG]
   rfl
  refine pT_ 13 36 15 16383 ?_
  refine hZ (i := 14) (N := none) (bb_ 15 32767) rfl rfl (cO HT_.o (by kernel_rfl)) (by decide) (fun K hK => ?_)
  refine js (w1 := ?_) (by rfl) rfl ?_ ?_
  rotate_left
  ·go_simp
   rfl
  refine hK _ _ ?_
  clear hK K
  refine fK (dN HT_.o (by kernel_rfl)) ?_
  try go_wp2
  (try simp only [← b0])
  go_roundg k2
  case measure => have := p1.o; have := r1.o; omega
  case rel => exact ⟨(Z0), (wrap64 (a0 + 1)), f0_, H', ⟨by have := p1.o; have := r1.o; omega⟩, ⟨by (try simp only [b0]); refine kR_ ?_; exact HQ21.o⟩, ⟨hS_ g1.o⟩⟩
def bV.f (k : Nat) (l0 : List Int) (l1 : List Int) : Option (List Int) := (ai.f k l0 l1).bind fun t590 => (some t590)
theorem bV.mono : ∀ a0 a1 k, LeO (bV.f k a0 a1) (bV.f (k + 1) a0 a1) := by
 intro a0 a1 k
 unfold bV.f
 exact o1_ ai.mono
theorem bV.calls (k : Nat) (A0 : Option Addr) (c0 : Nat) (l0 : List Int) (A1 : Option Addr) (c1 : Nat) (l1 : List Int) (r : List Int) (w : World) (hr0 : Kd.C (Kd.int .i64) w A0 l0.length l0) (hc0 : l0.length ≤ c0) (hr1 : Kd.C (Kd.int .i64) w A1 l1.length l1) (hc1 : l1.length ≤ c1) (h : bV.f k l0 l1 = some r) :
  Calls Tryz.prog 33 #[.slice A0 l0.length c0, .slice A1 l1.length c1] w fun e w' => ∃ b0 : Value, e = .returned (b0) ∧ Kd.R (Kd.int .i64) 3 w' w.heap.size (fun _ => True) b0 r ∧ Below w.heap.size w w' := by
 have d0 := c_ hr0
 have e0 := c_ hc0
 clear hr0 hc0
 have f0 := c_ hr1
 have j0 := c_ hc1
 clear hr1 hc1
 have HB := c_ (Da w.heap.size w)
 delta bV.f at h
 have H := h
 clear h
 obtain ⟨k0, A3, H⟩ := bN_ H
 obtain rfl := Ba H
 go_enter Tryz.func33, Tryz.ntmps33
 go_wp2_with (first | (refine gR_ (k_ 7 Tryz.func63) (ai.calls _ _ _ _ _ _ _ _ _ (cR_ d0.o) e0.o (cR_ f0.o) j0.o A3.o) fun n0 w4 ho_ hb => ?_; obtain ⟨a0, HB⟩ := n_ (lR_ ho_) <| sB_))
 go_ret
 exact ⟨_, f1_, rR_ a0.o, hB_⟩
theorem ah.cell_setCell_drewN (w : World) (n : Nat) (a b : Addr) (v : Value) : ((w.drewN n).setCell a v).cell? b = (w.setCell a v).cell? b := rfl
theorem ah.frozen_setCell (w : World) (a b : Addr) (v : Value) : (w.setCell a v).frozen? b = w.frozen? b := World.frozen?_setCell w a b v
attribute [local go_sem] ah.cell_setCell_drewN
mutual
def ah.l0 : Nat → List Int → Int → Int → Option (List Int)
 | 0, _, _, _ => none
 | k + 1, x3, x4, x5 => if x5 ≤ 128 then (ah.l1 k x3 x4 x5 0) else (ah.l3 k x3 (x3.length : Int) 0)
def ah.l1 : Nat → List Int → Int → Int → Int → Option (List Int)
 | 0, _, _, _, _ => none
 | k + 1, x3, x4, x5, x6 => if x6 < 256 then ((bD.f k x4).bind fun t597 => ((bG.f k 17 t597).bind fun t598 => (ah.l2 k x3 (wrap64 (x4 - 1)) x5 x6 t598 x6))) else (ah.l0 k x3 x4 (wrap64 (x5 * 2)))
def ah.l2 : Nat → List Int → Int → Int → Int → Int → Int → Option (List Int)
 | 0, _, _, _, _, _, _ => none
 | k + 1, x3, x4, x5, x6, x7, x8 => if x8 < (wrap64 (x6 + x5)) then (if 0 ≤ x8 then (if x8 < (x3.length : Int) then (if 0 ≤ (wrap64 (x8 + x5)) then (if (wrap64 (x8 + x5)) < (x3.length : Int) then ((cd.f (wrap64 ((rd x3 x8) + (rd x3 (wrap64 (x8 + x5)))))).bind fun t601 => ((cd.f (wrap64 (x7 * (wrap64 ((rd x3 (wrap64 (x8 + x5))) - (rd x3 x8)))))).bind fun t603 => (ah.l2 k ((x3.set (x8 : Int).toNat t601).set ((wrap64 (x8 + x5)) : Int).toNat t603) x4 x5 x6 x7 (wrap64 (x8 + 1))))) else (none)) else (none)) else (none)) else (none)) else (ah.l1 k x3 x4 x5 (wrap64 (x6 + (wrap64 (2 * x5)))))
def ah.l3 : Nat → List Int → Int → Int → Option (List Int)
 | 0, _, _, _ => none
 | k + 1, x3, x72, x73 => if x73 < x72 then (if 0 ≤ x73 then (if x73 < (x3.length : Int) then ((cd.f (wrap64 ((rd x3 x73) * 3303))).bind fun t607 => (ah.l3 k (x3.set (x73 : Int).toNat t607) x72 (wrap64 (x73 + 1)))) else (none)) else (none)) else (some x3)
end
def ah.f (k : Nat) (l0 : List Int) : Option (List Int) := (aw.f k l0).bind fun t593 => (if t593 = true then ((dF.f l0).bind fun t594 => (ah.l0 k t594 127 2)) else (some ([] : List Int)))
theorem ah.mono_l : ∀ k, (∀ y0 y1 y2, LeO (ah.l0 k y0 y1 y2) (ah.l0 (k + 1) y0 y1 y2)) ∧ (∀ y0 y1 y2 y3, LeO (ah.l1 k y0 y1 y2 y3) (ah.l1 (k + 1) y0 y1 y2 y3)) ∧ (∀ y0 y1 y2 y3 y4 y5, LeO (ah.l2 k y0 y1 y2 y3 y4 y5) (ah.l2 (k + 1) y0 y1 y2 y3 y4 y5)) ∧ (∀ y0 y1 y2, LeO (ah.l3 k y0 y1 y2) (ah.l3 (k + 1) y0 y1 y2))
 | 0 => ⟨fun _ _ _ r h => by simp [ah.l0] at h, fun _ _ _ _ r h => by simp [ah.l1] at h, fun _ _ _ _ _ _ r h => by simp [ah.l2] at h, fun _ _ _ r h => by simp [ah.l3] at h⟩
 | k + 1 => by
  obtain ⟨ih0, ih1, ih2, ih3⟩ := ah.mono_l k
  refine ⟨?_, ?_, ?_, ?_⟩ <;> (intros; (first | unfold ah.l0 | unfold ah.l1 | unfold ah.l2 | unfold ah.l3); exact o7_ ih0 ih1 ih2 ih3 aw.mono bG.mono bD.mono)
theorem ah.mono : ∀ a0 k, LeO (ah.f k a0) (ah.f (k + 1) a0) := by
 intro a0 k
 obtain ⟨ih0, ih1, ih2, ih3⟩ := ah.mono_l k
 unfold ah.f
 exact o7_ ih0 ih1 ih2 ih3 aw.mono bG.mono bD.mono
def ah.T17 : Bool × List (List Nat × List Nat) := (true, [([], []), ([], []), ([], []), ([], []), ([], []), ([3, 4], [3, 4]), ([], []), ([], []), ([], []), ([], []), ([8, 9], [8, 9]), ([7, 10], [7, 10]), ([11], [11]), ([6, 12], [6, 12]), ([13], [13]), ([], []), ([], []), ([], []), ([], []), ([17, 18], [17, 18]), ([16, 19], [16, 19]), ([20], [20]), ([], []), ([21, 22], [21, 22]), ([15, 23], [15, 23]), ([24, 14], [24]), ([0, 1, 0, 1, 6, 7, 8, 9, 10, 11, 12, 13, 14, 21, 25], [0, 1]), ([26, 14, 25, 0, 1, 6, 7, 8, 9, 10, 11, 12, 13, 14, 21, 25], [14, 26]), ([2, 5, 0, 1, 2, 3, 4, 5, 6, 7, 8, 9, 10, 11, 12, 13, 14, 15, 16, 17, 18, 19, 20, 21, 22, 23, 24, 25, 26, 27], [2, 5]), ([28, 25, 27, 0, 1, 2, 3, 4, 5, 6, 7, 8, 9, 10, 11, 12, 13, 14, 15, 16, 17, 18, 19, 20, 21, 22, 23, 24, 25, 26, 27], [25, 28])])
def ah.B17 : List Nat := [0, 0, 0, 0, 0, 24, 0, 0, 0, 0, 768, 1920, 3968, 8128, 16320, 0, 0, 0, 0, 393216, 983040, 2031616, 0, 8323072, 16744448, 33554368, 67108803, 134217667, 268435455, 536870911]
theorem ah.tab17 : eH .any (fJ Tryz.f34 17) = ah.T17 := by kernel_rfl
theorem ah.bits17 : dw ah.T17.2 ah.B17 = true := by kernel_rfl
theorem ah.calls (k : Nat) (A0 : Option Addr) (c0 : Nat) (l0 : List Int) (r : List Int) (w : World) (hr0 : Kd.C (Kd.int .i64) w A0 l0.length l0) (hc0 : l0.length ≤ c0) (h : ah.f k l0 = some r) :
  Calls Tryz.prog 34 #[.slice A0 l0.length c0] w fun e w' => ∃ c2 : Value, e = .returned (c2) ∧ Kd.R (Kd.int .i64) 3 w' w.heap.size (fun _ => True) c2 r ∧ Below w.heap.size w w' := by
 have z1 := c_ hr0
 have A1 := c_ hc0
 clear hr0 hc0
 have HB := c_ (Da w.heap.size w)
 delta ah.f at h
 have H := h
 clear h
 obtain ⟨B1, A2, H⟩ := bN_ H
 by_cases c3 : B1 = true
 ·subst c3
  replace H := iT_ H
  obtain ⟨C1, A4, H⟩ := bN_ H
  have H' := c_ H
  clear H
  go_enter Tryz.func34, Tryz.ntmps34
  go_wp2_with (first | (refine gp_ (k_ 12 Tryz.func65) (aw.calls _ _ _ _ _ _ (cR_ z1.o) A1.o A2.o) fun nd => ?_) | (refine gR_ (k_ 15 Tryz.func66) (dF.calls _ _ _ _ _ (cR_ z1.o) A1.o A4.o) fun K0 w5 ho_ hb => ?_; obtain ⟨Y0, HB⟩ := n_ (lR_ ho_) <| sB_))
  go_loopg [4, 5] k (fun kq v4 v5 w' => ∃ (r0 : List Int) (F0 : Int) (k0 : Int), v4 = .int .i64 F0 ∧ v5 = .int .i64 k0 ∧ aa (ah.l0 kq r0 F0 k0 = some r) ∧ aa (kq ≤ k) ∧ aa (Kd.R (Kd.int .i64) 3 w' w.heap.size (fun _ => True) K0 r0) ∧ aa (Below w.heap.size w w'))
  case atStart => exact ⟨(C1), (127), (2), f0_, f0_, H', ⟨Ca _⟩, ⟨rR_ Y0.o⟩, ⟨hB_⟩⟩
  clear H'
  obtain ⟨r0, F0, k0, rfl, rfl, HA, J0, a0, HB⟩ := hrel
  rcases gk with _ | k1
  ·exact absurd HA.o (by simp [ah.l0])
  have H := HA.o
  clear HA
  simp only [ah.l0] at H
  by_cases c6 : k0 ≤ 128
  rotate_left
  ·rw [Ga c6] at H
   have D1 := za c6
   clear c6
   have H' := c_ H
   clear H
   obtain ⟨E1, Z0, F1⟩ := uV a0.o
   subst F1
   go_wp2
   go_loopg [73] k1 (fun kq q2 w' => ∃ (j0 : List Int) (b0 : Int), q2 = .int .i64 b0 ∧ aa (ah.l3 kq j0 (r0.length : Int) b0 = some r) ∧ aa (kq ≤ k1) ∧ aa (Kd.R (Kd.int .i64) 3 w' w.heap.size (fun _ => True) (.slice E1 r0.length Z0) j0) ∧ aa (Below w.heap.size w w'))
   case atStart => exact ⟨(r0), (0), f0_, H', ⟨Ca _⟩, ⟨rR_ a0.o⟩, ⟨hB_⟩⟩
   clear H'
   obtain ⟨j0, b0, rfl, HA, G0, a0, HB⟩ := hrel
   have n0 := (uU a0.o).1
   rw [n0] at a0
   (try simp only [n0])
   rcases gk with _ | k2
   ·exact absurd HA.o (by simp [ah.l3])
   have H := HA.o
   clear HA
   simp only [ah.l3] at H
   by_cases W0 : b0 < (r0.length : Int)
   rotate_left
   ·rw [Ga W0] at H
    have E0 := za W0
    (try simp only [n0] at E0)
    clear W0
    obtain rfl := Ba H
    go_wp2
    go_ret
    exact ⟨_, f1_, rR_ a0.o, hB_⟩
   rw [Fa W0] at H
   have E0 := ya W0
   (try simp only [n0] at E0)
   clear W0
   obtain ⟨f2, H⟩ := iD_ H
   obtain ⟨g2, H⟩ := iN_ H
   have b1 := ya g2
   (try simp only [n0] at b1)
   clear g2
   obtain ⟨c1, r2, H⟩ := bN_ H
   obtain ⟨G1, x0⟩ : ∃ y_ : List Int, y_ = (j0.set (b0 : Int).toNat c1) := ⟨_, rfl⟩
   first | replace H := yb_ x0 H | rw [← x0] at H
   have d1 := c_ x0
   clear x0
   have H' := c_ H
   clear H
   have L0 : 0 ≤ (b0 : Int) := oD_
   have M0 : b0 < (j0.length : Int) := oD_
   obtain ⟨e1, H1, H0⟩ := uX (uU a0.o).2.2 b0 L0 M0
   cases H1
   replace L0 := Aa L0
   replace M0 := Aa M0
   go_wp2_with (first | (refine gp_ (k_ 83 Tryz.func69) (cd.calls _ _ _ r2.o) fun nd => ?_; (try (rw [dt wr]; generalize hq_ : World.drewN wr _ = wr; obtain ⟨a0, HB⟩ := b_ (show Kd.R (Kd.int .i64) 3 wr w.heap.size (fun _ => True) (.slice (some e1) j0.length Z0) j0 from by rw [← hq_]; exact (rR_ a0.o)) <| c_ (show Below w.heap.size w wr from by rw [← hq_]; exact (hB_)))); have I1 : 0 ≤ (b0 : Int) := oD_; have J1 : (b0 : Int) < ((j0.length : Int) : Int) := oD_; obtain ⟨go29, t2, f1, g1, gl29, cl29, HG29⟩ := vm a0.o (by omega); (first | cases f1 | (injection f1 with ea_ en_ ec_; (first | subst ea_ | (injection ea_ with ea_; subst ea_)); subst ec_; clear en_)); have K1 := c_ g1; have GG29 := c_ HG29; clear g1 gl29 HG29; (first | simp only [ch] at H0 | skip); obtain ⟨L1, hf29_0⟩ := uZ 0 a0.o (b0 : Int) I1 J1; replace I1 := Aa I1; replace J1 := Aa J1; obtain ⟨i2, hz30_⟩ := uZ 0 a0.o (b0 : Int) oD_ oD_; have HP30 := vj a0.o (b0 : Int) c1) | ((refine cz (t := 3) (p := 84) rfl ?_); refine st_ 3 84 HP30 d1 K1 fun E2 hw hp_ hg HBn => ?_; obtain ⟨a0, HB⟩ := b_ (hp_) <| c_ HBn.o; clear hg hw hp_))
   (try simp only [← n0])
   go_roundg k2
   case measure => have := J0.o; have := G0.o; omega
   case rel => exact ⟨(G1), (wrap64 (b0 + 1)), f0_, H', ⟨by have := J0.o; have := G0.o; omega⟩, ⟨by (try simp only [n0]); refine kR_ ?_; exact a0.o⟩, ⟨hB_⟩⟩
  rw [Fa c6] at H
  have D1 := ya c6
  clear c6
  have H' := c_ H
  clear H
  go_wp2
  go_loopg [4, 6] k1 (fun kq v4 v6 w' => ∃ (j0 : List Int) (D0 : Int) (t0 : Int), v4 = .int .i64 D0 ∧ v6 = .int .i64 t0 ∧ aa (ah.l1 kq j0 D0 k0 t0 = some r) ∧ aa (kq ≤ k1) ∧ aa (Kd.R (Kd.int .i64) 3 w' w.heap.size (fun _ => True) K0 j0) ∧ aa (Below w.heap.size w w'))
  case atStart => exact ⟨(r0), (F0), (0), f0_, f0_, H', ⟨Ca _⟩, ⟨rR_ a0.o⟩, ⟨hB_⟩⟩
  clear H'
  obtain ⟨j0, D0, t0, rfl, rfl, HA, G0, a0, HB⟩ := hrel
  rcases gk with _ | k2
  ·exact absurd HA.o (by simp [ah.l1])
  have H := HA.o
  clear HA
  simp only [ah.l1] at H
  by_cases c7 : t0 < 256
  rotate_left
  ·rw [Ga c7] at H
   have M1 := za c7
   clear c7
   have H' := c_ H
   clear H
   go_wp2
   go_roundg k2
   case measure => have := J0.o; have := G0.o; omega
   case rel => exact ⟨(j0), (D0), (wrap64 (k0 * 2)), f0_, f0_, H', ⟨by have := J0.o; have := G0.o; omega⟩, ⟨rR_ a0.o⟩, ⟨hB_⟩⟩
  rw [Fa c7] at H
  have M1 := ya c7
  clear c7
  obtain ⟨v2, A8, H⟩ := bN_ H
  obtain ⟨N0, A9, H⟩ := bN_ H
  have H' := c_ H
  clear H
  go_wp2_with (first | (refine gp_ (k_ 27 Tryz.func68) (bD.calls _ _ _ _ A8.o) fun nd => ?_) | (refine gp_ (k_ 28 Tryz.func67) (bG.calls _ _ _ _ _ A9.o) fun nd => ?_))
  go_loopg [8] k2 (fun kq v8 w' => ∃ (d0 : List Int) (f0 : Int), v8 = .int .i64 f0 ∧ aa (ah.l2 kq d0 (wrap64 (D0 - 1)) k0 t0 N0 f0 = some r) ∧ aa (kq ≤ k2) ∧ aa (Kd.R (Kd.int .i64) 3 w' w.heap.size (fun _ => True) K0 d0) ∧ aa (Below w.heap.size w w'))
  case atStart => exact ⟨(j0), (t0), f0_, H', ⟨Ca _⟩, ⟨rR_ a0.o⟩, ⟨hB_⟩⟩
  clear H'
  obtain ⟨d0, f0, rfl, HA, y1, a0, HB⟩ := hrel
  rcases gk with _ | k3
  ·exact absurd HA.o (by simp [ah.l2])
  have H := HA.o
  clear HA
  simp only [ah.l2] at H
  by_cases X0 : f0 < (wrap64 (t0 + k0))
  rotate_left
  ·rw [Ga X0] at H
   have i1 := za X0
   clear X0
   have H' := c_ H
   clear H
   go_wp2
   go_roundg k3
   case measure => have := J0.o; have := G0.o; have := y1.o; omega
   case rel => exact ⟨(d0), ((wrap64 (D0 - 1))), (wrap64 (t0 + (wrap64 (2 * k0)))), f0_, f0_, H', ⟨by have := J0.o; have := G0.o; have := y1.o; omega⟩, ⟨rR_ a0.o⟩, ⟨hB_⟩⟩
  rw [Fa X0] at H
  have i1 := ya X0
  clear X0
  obtain ⟨j2, H⟩ := iD_ H
  obtain ⟨m2, H⟩ := iD_ H
  obtain ⟨e0, v0⟩ : ∃ j_ : Int, (wrap64 (f0 + k0)) = j_ := ⟨_, rfl⟩
  first | rw [v0] at H | simp only [v0] at H
  have N1 : (IntKind.i64.wrap (f0 + k0)) = e0 := (bB _).trans v0
  obtain ⟨n2, H⟩ := iD_ H
  obtain ⟨p2, H⟩ := iD_ H
  obtain ⟨O0, y2, H⟩ := bN_ H
  obtain ⟨P0, z2, H⟩ := bN_ H
  obtain ⟨O1, y0⟩ : ∃ y_ : List Int, y_ = (d0.set (f0 : Int).toNat O0) := ⟨_, rfl⟩
  first | replace H := yb_ y0 H | rw [← y0] at H
  have j1 := c_ y0
  clear y0
  obtain ⟨P1, B0⟩ : ∃ y_ : List Int, y_ = (O1.set ((e0) : Int).toNat P0) := ⟨_, rfl⟩
  first | replace H := yb_ B0 H | rw [← B0] at H
  have m1 := c_ B0
  clear B0
  have H' := c_ H
  clear H
  obtain ⟨B2, C2, Q1⟩ := uV a0.o
  subst Q1
  have Q0 : 0 ≤ (f0 : Int) := oD_
  have R0 : f0 < (d0.length : Int) := oD_
  obtain ⟨C0, R1, I0⟩ := uX (uU a0.o).2.2 f0 Q0 R0
  cases R1
  replace Q0 := Aa Q0
  replace R0 := Aa R0
  try go_wp2
  obtain ⟨a0, HB⟩ := b_ (vh a0.o) <| c_ (bE HB.o)
  have S0 : 0 ≤ ((e0) : Int) := oD_
  have T0 : (e0) < (d0.length : Int) := oD_
  obtain ⟨n1, S1, p0⟩ := uX (uU a0.o).2.2 (e0) S0 T0
  obtain rfl : C0 = n1 := (by injection S1)
  replace S0 := Aa S0
  replace T0 := Aa T0
  have U0 : 0 ≤ ((e0) : Int) := oD_
  have V0 : (e0) < (d0.length : Int) := oD_
  obtain ⟨p1, T1, q0⟩ := uX (uU a0.o).2.2 (e0) U0 V0
  obtain rfl : C0 = p1 := (by injection T1)
  replace U0 := Aa U0
  replace V0 := Aa V0
  refine eI (n := 30) (S := fun w' => w'.cell? (C0.add ((e0)).toNat) = some (.int .i64 (rd d0 (e0))) ∧ w'.cell? (C0.add ((e0)).toNat) = some (.int .i64 (rd d0 (e0)))) (ds := [27, 29]) (bb_ 30 0) (by kernel_rfl) rfl rfl ⟨p0, q0⟩ (fun hHeld => ?_); refine cW ah.tab17 ah.bits17 (fun HT_ HW_ => ?_)
  generalize wr.drew = F2 at a0 HB p0 q0 hHeld ⊢
  refine pT_ 0 43 30 1 ?_
  refine pT_ 1 44 30 3 ?_
  refine pT_ 2 45 30 7 ?_
  refine pT_ 3 46 30 15 ?_
  refine pT_ 4 47 30 31 ?_
  refine pT_ 5 48 30 63 ?_
  refine pT_ 6 49 30 127 ?_
  refine pT_ 7 50 30 255 ?_
  refine pT_ 8 51 30 511 ?_
  refine pT_ 9 52 30 1023 ?_
  refine pT_ 10 53 30 2047 ?_
  refine pT_ 11 54 30 4095 ?_
  refine pT_ 15 58 30 36863 ?_
  refine pT_ 16 59 30 102399 ?_
  refine pT_ 17 60 30 233471 ?_
  refine pT_ 18 61 30 495615 ?_
  refine pT_ 19 62 30 1019903 ?_
  refine pT_ 20 63 30 2068479 ?_
  refine pT_ 22 65 30 6262783 ?_
  refine tS_ 12 55 (bb_ 30 6266879) (bF HT_.o HW_.o (by kernel_rfl)) hHeld ?_
  refine pT_ 13 56 30 6275071 ?_
  refine tS_ 21 64 (bb_ 30 8372223) (bF HT_.o HW_.o (by kernel_rfl)) hHeld ?_
  refine pT_ 23 66 30 16760831 ?_
  refine pT_ 24 67 30 33538047 ?_
  refine gh (i := 14) (N := some 57) (bb_ 30 33554431) rfl rfl (cO HT_.o (by kernel_rfl)) (by decide) (fun K hK => ?_)
  refine fX Tryz.func69 (by kernel_rfl) rfl #[.int .i64 (wrap64 ((rd d0 f0) + (rd d0 (e0))))] (by rfl) rfl rfl (by (try simp only [List.map_toArray, List.map_cons, List.map_nil]); first | done | (simp only [v0]; rfl) | rfl | (simp only [List.length_drop, List.length_take]; rfl)) ?_
  with_reducible refine (cd.calls (wrap64 ((rd d0 f0) + (rd d0 (e0)))) O0 _ y2.o).mono ?_
  rintro e w' ⟨rfl, ⟨nd, rfl⟩⟩
  refine ⟨_, rfl, ?_⟩
  refine hK _ _ ⟨hHeld.1, hHeld.2⟩ (fun hHeld => ?_)
  clear hK K
  refine er (a' := ?_) ?_ ?_
  rotate_left
  ·show Act.put _ (some 57) _ = _
   simp only [Act.put, List.setIfInBounds_toArray, List.set_cons_zero, List.set_cons_succ, bB, cG]
   rfl
  refine gh (i := 25) (N := some 68) (bb_ 30 67108863) rfl rfl (cO HT_.o (by kernel_rfl)) (by decide) (fun K hK => ?_)
  refine fX Tryz.func69 (by kernel_rfl) rfl #[.int .i64 (wrap64 (N0 * (wrap64 ((rd d0 (e0)) - (rd d0 f0)))))] (by rfl) rfl rfl (by (try simp only [List.map_toArray, List.map_cons, List.map_nil]); first | done | (simp only [v0]; rfl) | rfl | (simp only [List.length_drop, List.length_take]; rfl)) ?_
  with_reducible refine (cd.calls (wrap64 (N0 * (wrap64 ((rd d0 (e0)) - (rd d0 f0))))) P0 _ z2.o).mono ?_
  rintro e w' ⟨rfl, ⟨nd, rfl⟩⟩
  refine ⟨_, rfl, ?_⟩
  have U1 : 0 ≤ (f0 : Int) := oD_
  have V1 : (f0 : Int) < ((d0.length : Int) : Int) := oD_
  obtain ⟨go18, D2, q1, r1, gl18, cl18, HG18⟩ := vm a0.o (by omega)
  (first | cases q1 | (injection q1 with ea_ en_ ec_; (first | subst ea_ | (injection ea_ with ea_; subst ea_)); subst ec_; clear en_))
  have t1 := c_ r1
  have GG18 := c_ HG18
  clear r1 gl18 HG18
  (first | simp only [ch] at I0 | skip)
  (first | simp only [ch] at p0 | skip)
  (first | simp only [ch] at q0 | skip)
  obtain ⟨X1, hf18_0⟩ := uZ 0 a0.o (f0 : Int) U1 V1
  replace U1 := Aa U1
  replace V1 := Aa V1
  have HP22 := vG a0.o (f0 : Int) O0
  rw [← j1.o] at HP22
  have HQ22 := c_ HP22
  clear HP22
  have Y1 : 0 ≤ ((e0) : Int) := oD_
  have Z1 : ((e0) : Int) < ((d0.length : Int) : Int) := oD_
  obtain ⟨b2, hf19_0⟩ := uZ 0 HQ22.o ((e0) : Int) Y1 Z1
  (first | simp only [ah.frozen_setCell] at hf19_0 | skip)
  replace Y1 := Aa Y1
  replace Z1 := Aa Z1
  have HP23 := vG HQ22.o ((e0) : Int) P0
  rw [← m1.o] at HP23
  have HQ23 := c_ HP23
  clear HP23
  refine hK _ _ ⟨hHeld.1, hHeld.2⟩ (fun hHeld => ?_)
  clear hK K
  refine er (a' := ?_) ?_ ?_
  rotate_left
  ·show Act.put _ (some 68) _ = _
   simp only [Act.put, List.setIfInBounds_toArray, List.set_cons_zero, List.set_cons_succ, bB, cG]
   rfl
  refine pT_ 26 69 30 134217727 ?_
  refine hZ (i := 27) (N := none) (bb_ 30 268435455) rfl rfl (cO HT_.o (by kernel_rfl)) (by decide) (fun K hK => ?_)
  refine js (w1 := ?_) (by rfl) rfl ?_ ?_
  rotate_left
  ·go_simp
   rfl
  refine hK _ _ ?_
  clear hK K
  refine pT_ 28 70 30 536870911 ?_
  refine hZ (i := 29) (N := none) (bb_ 30 1073741823) rfl rfl (cO HT_.o (by kernel_rfl)) (by decide) (fun K hK => ?_)
  refine js (w1 := ?_) (by rfl) rfl ?_ ?_
  rotate_left
  ·go_simp
   rfl
  refine hK _ _ ?_
  clear hK K
  refine fK (dN HT_.o (by kernel_rfl)) ?_
  try go_wp2
  go_roundg k3
  case measure => have := J0.o; have := G0.o; have := y1.o; omega
  case rel => exact ⟨(P1), (wrap64 (f0 + 1)), f0_, H', ⟨by have := J0.o; have := G0.o; have := y1.o; omega⟩, ⟨rR_ HQ23.o⟩, ⟨(u2_ t1.o t1.o)⟩⟩
 ·replace c3 := Ea c3
  subst c3
  replace H := iF_ H
  obtain rfl := Ba H
  go_enter Tryz.func34, Tryz.ntmps34
  go_wp2_with (first | (refine gp_ (k_ 12 Tryz.func65) (aw.calls _ _ _ _ _ _ (cR_ z1.o) A1.o A2.o) fun nd => ?_))
  go_ret
  exact ⟨_, f1_, by first | exact vB _ _ _ _ _ | exact Kd.N_nil _ _ _ _ _ | exact Kd.V_nil _ _ _ _ _ | exact Kd.Q_nil _ _ _ _ _ | exact vC _ _ _ _ _, hB_⟩
mutual
def br.j0 : Nat → List Int → List Int → Bool → Option (List Int)
 | 0, _, _, _ => none
 | k + 1, x0, x1, x19 => if x19 = true then (some ([] : List Int)) else (if 256 ≤ 35184372088832 then (br.l0 k x0 x1 (List.replicate 256 0) 0) else (none))
def br.l0 : Nat → List Int → List Int → List Int → Int → Option (List Int)
 | 0, _, _, _, _ => none
 | k + 1, x0, x1, x5, x21 => if x21 < 128 then ((bD.f k x21).bind fun t614 => ((bG.f k 17 (wrap64 ((wrap64 (2 * t614)) + 1))).bind fun t615 => (if 0 ≤ (wrap64 (2 * x21)) then (if (wrap64 (2 * x21)) < (x0.length : Int) then (if 0 ≤ (wrap64 ((wrap64 (2 * x21)) + 1)) then (if (wrap64 ((wrap64 (2 * x21)) + 1)) < (x0.length : Int) then (if (wrap64 (2 * x21)) < (x1.length : Int) then (if (wrap64 ((wrap64 (2 * x21)) + 1)) < (x1.length : Int) then ((cd.f (wrap64 ((wrap64 ((rd x0 (wrap64 (2 * x21))) * (rd x1 (wrap64 (2 * x21))))) + (wrap64 ((Int.tmod (wrap64 ((rd x0 (wrap64 ((wrap64 (2 * x21)) + 1))) * (rd x1 (wrap64 ((wrap64 (2 * x21)) + 1))))) 3329) * t615))))).bind fun t620 => (if (wrap64 (2 * x21)) < (x5.length : Int) then ((cd.f (wrap64 ((wrap64 ((rd x0 (wrap64 (2 * x21))) * (rd x1 (wrap64 ((wrap64 (2 * x21)) + 1))))) + (wrap64 ((rd x0 (wrap64 ((wrap64 (2 * x21)) + 1))) * (rd x1 (wrap64 (2 * x21)))))))).bind fun t622 => (if (wrap64 ((wrap64 (2 * x21)) + 1)) < (x5.length : Int) then (br.l0 k x0 x1 ((x5.set ((wrap64 (2 * x21)) : Int).toNat t620).set ((wrap64 ((wrap64 (2 * x21)) + 1)) : Int).toNat t622) (wrap64 (x21 + 1))) else (none))) else (none))) else (none)) else (none)) else (none)) else (none)) else (none)) else (none)))) else (some x5)
end
def br.f (k : Nat) (l0 : List Int) (l1 : List Int) : Option (List Int) := (aw.f k l0).bind fun t609 => (if t609 = true then ((aw.f k l1).bind fun t610 => (br.j0 k l0 l1 (!t610))) else (br.j0 k l0 l1 true))
theorem br.mono_l : ∀ k, (∀ y0 y1 y2, LeO (br.j0 k y0 y1 y2) (br.j0 (k + 1) y0 y1 y2)) ∧ (∀ y0 y1 y2 y3, LeO (br.l0 k y0 y1 y2 y3) (br.l0 (k + 1) y0 y1 y2 y3))
 | 0 => ⟨fun _ _ _ r h => by simp [br.j0] at h, fun _ _ _ _ r h => by simp [br.l0] at h⟩
 | k + 1 => by
  obtain ⟨ih0, ih1⟩ := br.mono_l k
  refine ⟨?_, ?_⟩ <;> (intros; (first | unfold br.j0 | unfold br.l0); exact o5_ ih0 ih1 aw.mono bG.mono bD.mono)
theorem br.mono : ∀ a0 a1 k, LeO (br.f k a0 a1) (br.f (k + 1) a0 a1) := by
 intro a0 a1 k
 obtain ⟨ih0, ih1⟩ := br.mono_l k
 unfold br.f
 exact o5_ ih0 ih1 aw.mono bG.mono bD.mono
theorem br.calls (k : Nat) (A0 : Option Addr) (c0 : Nat) (l0 : List Int) (A1 : Option Addr) (c1 : Nat) (l1 : List Int) (r : List Int) (w : World) (hr0 : Kd.C (Kd.int .i64) w A0 l0.length l0) (hc0 : l0.length ≤ c0) (hr1 : Kd.C (Kd.int .i64) w A1 l1.length l1) (hc1 : l1.length ≤ c1) (h : br.f k l0 l1 = some r) :
  Calls Tryz.prog 70 #[.slice A0 l0.length c0, .slice A1 l1.length c1] w fun e w' => ∃ R1 : Value, e = .returned (R1) ∧ Kd.R (Kd.int .i64) 3 w' w.heap.size (fun _ => True) R1 r ∧ Below w.heap.size w w' := by
 have X0 := c_ hr0
 have z1 := c_ hc0
 clear hr0 hc0
 have t1 := c_ hr1
 have G1 := c_ hc1
 clear hr1 hc1
 have HB := c_ (Da w.heap.size w)
 delta br.f at h
 have H := h
 clear h
 have H1 := c_ H
 clear H
 go_enter Tryz.func70, Tryz.ntmps70
 go_upto_region 1 with (fail)
 repeat (go_quiet (fail); go_upto_region 1 with (fail))
 go_cut [19] (fun j2 wc => ∃ (kq : Nat) (T0 : Bool), j2 = .bool T0 ∧ aa (br.j0 kq l0 l1 T0 = some r) ∧ aa (kq ≤ k) ∧ aa (Below w.heap.size w wc))
 case first =>
  have H := H1.o
  clear H1
  obtain ⟨I1, A4, H⟩ := bN_ H
  by_cases c5 : I1 = true
  ·subst c5
   replace H := iT_ H
   obtain ⟨J1, A6, H⟩ := bN_ H
   have H' := c_ H
   clear H
   go_wp2_with (first | (go_at_call 65; refine mp_ (aw.calls _ _ _ _ _ _ (cR_ (vb X0.o HB.o)) z1.o A4.o) fun nd => ?_; (try exact dD_)) | (go_at_call 65; refine mp_ (aw.calls _ _ _ _ _ _ (cR_ (vb t1.o (hB_))) G1.o A6.o) fun nd => ?_; (try exact dD_)))
   repeat (go_quiet (first | (go_at_call 65; refine mp_ (aw.calls _ _ _ _ _ _ (cR_ (vb X0.o HB.o)) z1.o A4.o) fun nd => ?_; (try exact dD_)) | (go_at_call 65; refine mp_ (aw.calls _ _ _ _ _ _ (cR_ (vb t1.o (hB_))) G1.o A6.o) fun nd => ?_; (try exact dD_))); try go_wp2_with (first | (go_at_call 65; refine mp_ (aw.calls _ _ _ _ _ _ (cR_ (vb X0.o HB.o)) z1.o A4.o) fun nd => ?_; (try exact dD_)) | (go_at_call 65; refine mp_ (aw.calls _ _ _ _ _ _ (cR_ (vb t1.o (hB_))) G1.o A6.o) fun nd => ?_; (try exact dD_))))
   go_meet
   case rel => exact ⟨_, (!J1), f0_, H', ⟨by first | omega | exact Ca _⟩, ⟨hB_⟩⟩
  ·replace c5 := Ea c5
   subst c5
   replace H := iF_ H
   have H' := c_ H
   clear H
   go_wp2_with (first | (go_at_call 65; refine mp_ (aw.calls _ _ _ _ _ _ (cR_ (vb X0.o HB.o)) z1.o A4.o) fun nd => ?_; (try exact dD_)))
   repeat (go_quiet (first | (go_at_call 65; refine mp_ (aw.calls _ _ _ _ _ _ (cR_ (vb X0.o HB.o)) z1.o A4.o) fun nd => ?_; (try exact dD_))); try go_wp2_with (first | (go_at_call 65; refine mp_ (aw.calls _ _ _ _ _ _ (cR_ (vb X0.o HB.o)) z1.o A4.o) fun nd => ?_; (try exact dD_))))
   go_meet
   case rel => exact ⟨_, (true), f0_, H', ⟨by first | omega | exact Ca _⟩, ⟨hB_⟩⟩
 clear H1
 obtain ⟨kq, T0, rfl, HA, S1, HB⟩ := hcut
 rcases kq with _ | T1
 ·exact absurd HA.o (by simp [br.j0])
 have H := HA.o
 clear HA
 simp only [br.j0] at H
 by_cases c7 : T0 = true
 ·subst c7
  replace H := iT_ H
  obtain rfl := Ba H
  go_wp2
  repeat (go_quiet (fail); try go_wp2)
  go_ret
  exact ⟨_, f1_, by first | exact vB _ _ _ _ _ | exact Kd.N_nil _ _ _ _ _ | exact Kd.V_nil _ _ _ _ _ | exact Kd.Q_nil _ _ _ _ _ | exact vC _ _ _ _ _, hB_⟩
 ·replace c7 := Ea c7
  subst c7
  replace H := iF_ H
  obtain ⟨c8, H⟩ := iN_ H
  have l2 := Aa c8
  have m2 := ya c8
  clear c8
  obtain ⟨K1, U0⟩ : ∃ y_ : List Int, y_ = (List.replicate 256 0) := ⟨_, rfl⟩
  first | replace H := yb_ U0 H | rw [← U0] at H
  have F0 := c_ U0
  clear U0
  have H' := c_ H
  clear H
  go_wp2_with (first | ((refine cQ (N := 20) rfl ?_); refine vs (Kd.int .i64) _ 3 rfl (N := 20) rfl 33 _ _ rfl 256 rfl rfl Tryz.underlying33 (.int .i64 0) 8 di rfl (by decide) (by omega) 0 (ok := fun _ => True) (okp := fun _ => True) rfl (fun _ hk => hk) trivial (by omega) (by omega) (Da _ _) (Ca _) ?_; intro y1 w9 p0 hb hg_ hnew_; clear hg_ hnew_; (first | rw [← F0.o] at p0 | (simp only [Int.reduceToNat] at p0; rw [← F0.o] at p0)); obtain ⟨Y0, HB⟩ := b_ (uY p0 (av (hB_))) <| sB_; clear hb p0))
  repeat (go_quiet (first | ((refine cQ (N := 20) rfl ?_); refine vs (Kd.int .i64) _ 3 rfl (N := 20) rfl 33 _ _ rfl 256 rfl rfl Tryz.underlying33 (.int .i64 0) 8 di rfl (by decide) (by omega) 0 (ok := fun _ => True) (okp := fun _ => True) rfl (fun _ hk => hk) trivial (by omega) (by omega) (Da _ _) (Ca _) ?_; intro y1 w9 p0 hb hg_ hnew_; clear hg_ hnew_; (first | rw [← F0.o] at p0 | (simp only [Int.reduceToNat] at p0; rw [← F0.o] at p0)); obtain ⟨Y0, HB⟩ := b_ (uY p0 (av (hB_))) <| sB_; clear hb p0)); try go_wp2_with (first | ((refine cQ (N := 20) rfl ?_); refine vs (Kd.int .i64) _ 3 rfl (N := 20) rfl 33 _ _ rfl 256 rfl rfl Tryz.underlying33 (.int .i64 0) 8 di rfl (by decide) (by omega) 0 (ok := fun _ => True) (okp := fun _ => True) rfl (fun _ hk => hk) trivial (by omega) (by omega) (Da _ _) (Ca _) ?_; intro y1 w9 p0 hb hg_ hnew_; clear hg_ hnew_; (first | rw [← F0.o] at p0 | (simp only [Int.reduceToNat] at p0; rw [← F0.o] at p0)); obtain ⟨Y0, HB⟩ := b_ (uY p0 (av (hB_))) <| sB_; clear hb p0)))
  go_loopg [21] T1 (fun kq n2 w' => ∃ (E0 : List Int) (q0 : Int), n2 = .int .i64 q0 ∧ aa (br.l0 kq l0 l1 E0 q0 = some r) ∧ aa (kq ≤ T1) ∧ aa (Kd.R (Kd.int .i64) 3 w' w.heap.size (fun _ => True) y1 E0) ∧ aa (Below w.heap.size w w'))
  case atStart => exact ⟨(K1), (0), f0_, H', ⟨Ca _⟩, ⟨rR_ Y0.o⟩, ⟨hB_⟩⟩
  clear H'
  obtain ⟨E0, q0, rfl, HA, U1, a0, HB⟩ := hrel
  rcases gk with _ | k2
  ·exact absurd HA.o (by simp [br.l0])
  have H := HA.o
  clear HA
  simp only [br.l0] at H
  by_cases B1 : q0 < 128
  rotate_left
  ·rw [Ga B1] at H
   have C1 := za B1
   clear B1
   obtain rfl := Ba H
   go_wp2
   repeat (go_quiet (fail); try go_wp2)
   go_ret
   exact ⟨_, f1_, rR_ a0.o, hB_⟩
  rw [Fa B1] at H
  have C1 := ya B1
  clear B1
  obtain ⟨p2, D1, H⟩ := bN_ H
  obtain ⟨q2, E1, H⟩ := bN_ H
  obtain ⟨b0, G0⟩ : ∃ j_ : Int, (wrap64 (2 * q0)) = j_ := ⟨_, rfl⟩
  first | rw [G0] at H | simp only [G0] at H
  (try rw [G0] at D1)
  (try rw [G0] at E1)
  have L1 : (IntKind.i64.wrap (2 * q0)) = b0 := (bB _).trans G0
  obtain ⟨V1, H⟩ := iD_ H
  obtain ⟨X1, H⟩ := iD_ H
  obtain ⟨d0, H0⟩ : ∃ j_ : Int, (wrap64 ((b0) + 1)) = j_ := ⟨_, rfl⟩
  first | rw [H0] at H | simp only [H0] at H
  (try rw [H0] at D1)
  (try rw [H0] at E1)
  have M1 : (IntKind.i64.wrap ((b0) + 1)) = d0 := (bB _).trans H0
  obtain ⟨Y1, H⟩ := iD_ H
  obtain ⟨Z1, H⟩ := iD_ H
  obtain ⟨b2, H⟩ := iD_ H
  obtain ⟨c2, H⟩ := iD_ H
  obtain ⟨R0, N1, H⟩ := bN_ H
  obtain ⟨f2, H⟩ := iD_ H
  obtain ⟨O1, V0⟩ : ∃ y_ : List Int, y_ = (E0.set ((b0) : Int).toNat R0) := ⟨_, rfl⟩
  first | replace H := yb_ V0 H | rw [← V0] at H
  have Z0 := c_ V0
  clear V0
  obtain ⟨S0, P1, H⟩ := bN_ H
  obtain ⟨g2, H⟩ := iD_ H
  obtain ⟨Q1, W0⟩ : ∃ y_ : List Int, y_ = (O1.set ((d0) : Int).toNat S0) := ⟨_, rfl⟩
  first | replace H := yb_ W0 H | rw [← W0] at H
  have b1 := c_ W0
  clear W0
  have H' := c_ H
  clear H
  go_wp2_with (first | (go_at_call 68; refine mp_ (bD.calls _ _ _ _ D1.o) fun nd => ?_; (try exact dD_)) | (go_at_call 67; refine mp_ (bG.calls _ _ _ _ _ E1.o) fun nd => ?_; (try exact dD_); have r0 : 0 ≤ ((b0) : Int) := oD_; have t0 : (b0) < (l0.length : Int) := oD_; obtain ⟨I0, d1, e0⟩ := uX X0.o (b0) r0 t0; cases d1; replace e0 := hc_ e0; replace r0 := Aa r0; replace t0 := Aa t0; have v0 : 0 ≤ ((d0) : Int) := oD_; have x0 : (d0) < (l0.length : Int) := oD_; obtain ⟨J0, e1, f0⟩ := uX X0.o (d0) v0 x0; obtain rfl : I0 = J0 := (by injection e1); replace f0 := hc_ f0; replace v0 := Aa v0; replace x0 := Aa x0; have y0 : 0 ≤ ((b0) : Int) := oD_; have B0 : (b0) < (l1.length : Int) := oD_; obtain ⟨K0, f1, k0⟩ := uX t1.o (b0) y0 B0; cases f1; replace k0 := hc_ k0; replace y0 := Aa y0; replace B0 := Aa B0; have C0 : 0 ≤ ((d0) : Int) := oD_; have D0 : (d0) < (l1.length : Int) := oD_; obtain ⟨L0, g1, n0⟩ := uX t1.o (d0) C0 D0; obtain rfl : K0 = L0 := (by injection g1); replace n0 := hc_ n0; replace C0 := Aa C0; replace D0 := Aa D0) | (go_at_call 69; refine mp_ (cd.calls _ _ _ N1.o) fun nd => ?_; (try exact dD_); have i1 : 0 ≤ ((b0) : Int) := oD_; have j1 : ((b0) : Int) < ((E0.length : Int) : Int) := oD_; obtain ⟨go24, F1, M0, N0, gl24, cl24, HG24⟩ := vm a0.o (by omega); (first | cases M0 | (injection M0 with ea_ en_ ec_; (first | subst ea_ | (injection ea_ with ea_; subst ea_)); subst ec_; clear en_)); have O0 := c_ N0; have GG24 := c_ HG24; clear N0 gl24 HG24; obtain ⟨m1, hf24_0⟩ := uZ 0 a0.o ((b0) : Int) i1 j1; replace i1 := Aa i1; replace j1 := Aa j1; obtain ⟨P0, hz28_⟩ := uZ 0 a0.o ((b0) : Int) oD_ oD_; have HP28 := vj a0.o ((b0) : Int) R0) | ((refine cz (t := 3) (p := 65) rfl ?_); (try (rw [dt wr]; generalize hq_ : World.drewN wr _ = wr; obtain ⟨a0, HB⟩ := b_ (wI hq_ a0.o) <| c_ (gc hq_ HB.o); (try (obtain ⟨P0, hz28_⟩ := uZ 0 a0.o ((b0) : Int) oD_ oD_)); (try (have HP28 := vj a0.o ((b0) : Int) R0)))); refine st_ 3 65 HP28 Z0 O0 fun n1 hw hp_ hg HBn => ?_; have n0_ := c_ (hp_); have n1_ := c_ (HBn.o); replace a0 := n0_; replace HB := n1_; clear n0_ n1_; clear hg hw hp_) | (go_at_call 69; refine mp_ (cd.calls _ _ _ P1.o) fun nd => ?_; (try exact dD_); have p1 : 0 ≤ ((d0) : Int) := oD_; have q1 : ((d0) : Int) < ((E0.length : Int) : Int) := oD_; obtain ⟨r1, hf27_0⟩ := uZ 0 a0.o ((d0) : Int) p1 q1; replace p1 := Aa p1; replace q1 := Aa q1; obtain ⟨Q0, hz30_⟩ := uZ 0 a0.o ((d0) : Int) oD_ oD_; have HP30 := vj a0.o ((d0) : Int) S0) | ((refine cz (t := 3) (p := 78) rfl ?_); (try (rw [dt n1]; generalize hq_ : World.drewN n1 _ = n1; obtain ⟨a0, HB⟩ := b_ (wI hq_ a0.o) <| c_ (gc hq_ HB.o); (try (obtain ⟨Q0, hz30_⟩ := uZ 0 a0.o ((d0) : Int) oD_ oD_)); (try (have HP30 := vj a0.o ((d0) : Int) S0)))); refine st_ 3 78 HP30 b1 O0 fun i2 hw hp_ hg HBn => ?_; have n0_ := c_ (hp_); have n1_ := c_ (HBn.o); replace a0 := n0_; replace HB := n1_; clear n0_ n1_; clear hg hw hp_))
  repeat (go_quiet (first | (go_at_call 68; refine mp_ (bD.calls _ _ _ _ D1.o) fun nd => ?_; (try exact dD_)) | (go_at_call 67; refine mp_ (bG.calls _ _ _ _ _ E1.o) fun nd => ?_; (try exact dD_); have r0 : 0 ≤ ((b0) : Int) := oD_; have t0 : (b0) < (l0.length : Int) := oD_; obtain ⟨I0, d1, e0⟩ := uX X0.o (b0) r0 t0; cases d1; replace e0 := hc_ e0; replace r0 := Aa r0; replace t0 := Aa t0; have v0 : 0 ≤ ((d0) : Int) := oD_; have x0 : (d0) < (l0.length : Int) := oD_; obtain ⟨J0, e1, f0⟩ := uX X0.o (d0) v0 x0; obtain rfl : I0 = J0 := (by injection e1); replace f0 := hc_ f0; replace v0 := Aa v0; replace x0 := Aa x0; have y0 : 0 ≤ ((b0) : Int) := oD_; have B0 : (b0) < (l1.length : Int) := oD_; obtain ⟨K0, f1, k0⟩ := uX t1.o (b0) y0 B0; cases f1; replace k0 := hc_ k0; replace y0 := Aa y0; replace B0 := Aa B0; have C0 : 0 ≤ ((d0) : Int) := oD_; have D0 : (d0) < (l1.length : Int) := oD_; obtain ⟨L0, g1, n0⟩ := uX t1.o (d0) C0 D0; obtain rfl : K0 = L0 := (by injection g1); replace n0 := hc_ n0; replace C0 := Aa C0; replace D0 := Aa D0) | (go_at_call 69; refine mp_ (cd.calls _ _ _ N1.o) fun nd => ?_; (try exact dD_); have i1 : 0 ≤ ((b0) : Int) := oD_; have j1 : ((b0) : Int) < ((E0.length : Int) : Int) := oD_; obtain ⟨go24, F1, M0, N0, gl24, cl24, HG24⟩ := vm a0.o (by omega); (first | cases M0 | (injection M0 with ea_ en_ ec_; (first | subst ea_ | (injection ea_ with ea_; subst ea_)); subst ec_; clear en_)); have O0 := c_ N0; have GG24 := c_ HG24; clear N0 gl24 HG24; obtain ⟨m1, hf24_0⟩ := uZ 0 a0.o ((b0) : Int) i1 j1; replace i1 := Aa i1; replace j1 := Aa j1; obtain ⟨P0, hz28_⟩ := uZ 0 a0.o ((b0) : Int) oD_ oD_; have HP28 := vj a0.o ((b0) : Int) R0) | ((refine cz (t := 3) (p := 65) rfl ?_); (try (rw [dt wr]; generalize hq_ : World.drewN wr _ = wr; obtain ⟨a0, HB⟩ := b_ (wI hq_ a0.o) <| c_ (gc hq_ HB.o); (try (obtain ⟨P0, hz28_⟩ := uZ 0 a0.o ((b0) : Int) oD_ oD_)); (try (have HP28 := vj a0.o ((b0) : Int) R0)))); refine st_ 3 65 HP28 Z0 O0 fun n1 hw hp_ hg HBn => ?_; have n0_ := c_ (hp_); have n1_ := c_ (HBn.o); replace a0 := n0_; replace HB := n1_; clear n0_ n1_; clear hg hw hp_) | (go_at_call 69; refine mp_ (cd.calls _ _ _ P1.o) fun nd => ?_; (try exact dD_); have p1 : 0 ≤ ((d0) : Int) := oD_; have q1 : ((d0) : Int) < ((E0.length : Int) : Int) := oD_; obtain ⟨r1, hf27_0⟩ := uZ 0 a0.o ((d0) : Int) p1 q1; replace p1 := Aa p1; replace q1 := Aa q1; obtain ⟨Q0, hz30_⟩ := uZ 0 a0.o ((d0) : Int) oD_ oD_; have HP30 := vj a0.o ((d0) : Int) S0) | ((refine cz (t := 3) (p := 78) rfl ?_); (try (rw [dt n1]; generalize hq_ : World.drewN n1 _ = n1; obtain ⟨a0, HB⟩ := b_ (wI hq_ a0.o) <| c_ (gc hq_ HB.o); (try (obtain ⟨Q0, hz30_⟩ := uZ 0 a0.o ((d0) : Int) oD_ oD_)); (try (have HP30 := vj a0.o ((d0) : Int) S0)))); refine st_ 3 78 HP30 b1 O0 fun i2 hw hp_ hg HBn => ?_; have n0_ := c_ (hp_); have n1_ := c_ (HBn.o); replace a0 := n0_; replace HB := n1_; clear n0_ n1_; clear hg hw hp_)); try go_wp2_with (first | (go_at_call 68; refine mp_ (bD.calls _ _ _ _ D1.o) fun nd => ?_; (try exact dD_)) | (go_at_call 67; refine mp_ (bG.calls _ _ _ _ _ E1.o) fun nd => ?_; (try exact dD_); have r0 : 0 ≤ ((b0) : Int) := oD_; have t0 : (b0) < (l0.length : Int) := oD_; obtain ⟨I0, d1, e0⟩ := uX X0.o (b0) r0 t0; cases d1; replace e0 := hc_ e0; replace r0 := Aa r0; replace t0 := Aa t0; have v0 : 0 ≤ ((d0) : Int) := oD_; have x0 : (d0) < (l0.length : Int) := oD_; obtain ⟨J0, e1, f0⟩ := uX X0.o (d0) v0 x0; obtain rfl : I0 = J0 := (by injection e1); replace f0 := hc_ f0; replace v0 := Aa v0; replace x0 := Aa x0; have y0 : 0 ≤ ((b0) : Int) := oD_; have B0 : (b0) < (l1.length : Int) := oD_; obtain ⟨K0, f1, k0⟩ := uX t1.o (b0) y0 B0; cases f1; replace k0 := hc_ k0; replace y0 := Aa y0; replace B0 := Aa B0; have C0 : 0 ≤ ((d0) : Int) := oD_; have D0 : (d0) < (l1.length : Int) := oD_; obtain ⟨L0, g1, n0⟩ := uX t1.o (d0) C0 D0; obtain rfl : K0 = L0 := (by injection g1); replace n0 := hc_ n0; replace C0 := Aa C0; replace D0 := Aa D0) | (go_at_call 69; refine mp_ (cd.calls _ _ _ N1.o) fun nd => ?_; (try exact dD_); have i1 : 0 ≤ ((b0) : Int) := oD_; have j1 : ((b0) : Int) < ((E0.length : Int) : Int) := oD_; obtain ⟨go24, F1, M0, N0, gl24, cl24, HG24⟩ := vm a0.o (by omega); (first | cases M0 | (injection M0 with ea_ en_ ec_; (first | subst ea_ | (injection ea_ with ea_; subst ea_)); subst ec_; clear en_)); have O0 := c_ N0; have GG24 := c_ HG24; clear N0 gl24 HG24; obtain ⟨m1, hf24_0⟩ := uZ 0 a0.o ((b0) : Int) i1 j1; replace i1 := Aa i1; replace j1 := Aa j1; obtain ⟨P0, hz28_⟩ := uZ 0 a0.o ((b0) : Int) oD_ oD_; have HP28 := vj a0.o ((b0) : Int) R0) | ((refine cz (t := 3) (p := 65) rfl ?_); (try (rw [dt wr]; generalize hq_ : World.drewN wr _ = wr; obtain ⟨a0, HB⟩ := b_ (wI hq_ a0.o) <| c_ (gc hq_ HB.o); (try (obtain ⟨P0, hz28_⟩ := uZ 0 a0.o ((b0) : Int) oD_ oD_)); (try (have HP28 := vj a0.o ((b0) : Int) R0)))); refine st_ 3 65 HP28 Z0 O0 fun n1 hw hp_ hg HBn => ?_; have n0_ := c_ (hp_); have n1_ := c_ (HBn.o); replace a0 := n0_; replace HB := n1_; clear n0_ n1_; clear hg hw hp_) | (go_at_call 69; refine mp_ (cd.calls _ _ _ P1.o) fun nd => ?_; (try exact dD_); have p1 : 0 ≤ ((d0) : Int) := oD_; have q1 : ((d0) : Int) < ((E0.length : Int) : Int) := oD_; obtain ⟨r1, hf27_0⟩ := uZ 0 a0.o ((d0) : Int) p1 q1; replace p1 := Aa p1; replace q1 := Aa q1; obtain ⟨Q0, hz30_⟩ := uZ 0 a0.o ((d0) : Int) oD_ oD_; have HP30 := vj a0.o ((d0) : Int) S0) | ((refine cz (t := 3) (p := 78) rfl ?_); (try (rw [dt n1]; generalize hq_ : World.drewN n1 _ = n1; obtain ⟨a0, HB⟩ := b_ (wI hq_ a0.o) <| c_ (gc hq_ HB.o); (try (obtain ⟨Q0, hz30_⟩ := uZ 0 a0.o ((d0) : Int) oD_ oD_)); (try (have HP30 := vj a0.o ((d0) : Int) S0)))); refine st_ 3 78 HP30 b1 O0 fun i2 hw hp_ hg HBn => ?_; have n0_ := c_ (hp_); have n1_ := c_ (HBn.o); replace a0 := n0_; replace HB := n1_; clear n0_ n1_; clear hg hw hp_)))
  go_roundg k2
  case measure => have := S1.o; have := U1.o; omega
  case rel => exact ⟨(Q1), (wrap64 (q0 + 1)), f0_, H', ⟨by have := S1.o; have := U1.o; omega⟩, ⟨rR_ a0.o⟩, ⟨hB_⟩⟩
def bP.l0 : Nat → List (List Int) → List (List Int) → List Int → Int → Int → Option (List Int)
 | 0, _, _, _, _, _ => none
 | k + 1, x0, x1, x5, x9, x10 => if x10 < x9 then (if 0 ≤ x10 then (if x10 < (x0.length : Int) then (if x10 < (x1.length : Int) then ((br.f k (dV x0 x10) (dV x1 x10)).bind fun t629 => ((bV.f k x5 t629).bind fun t632 => (bP.l0 k x0 x1 t632 x9 (wrap64 (x10 + 1))))) else (none)) else (none)) else (none)) else (some x5)
def bP.f (k : Nat) (l0 : List (List Int)) (l1 : List (List Int)) : Option (List Int) := if 256 ≤ 35184372088832 then (bP.l0 k l0 l1 (List.replicate 256 0) (l0.length : Int) 0) else (none)
theorem bP.mono_l : ∀ k, (∀ y0 y1 y2 y3 y4, LeO (bP.l0 k y0 y1 y2 y3 y4) (bP.l0 (k + 1) y0 y1 y2 y3 y4))
 | 0 => fun _ _ _ _ _ r h => by simp [bP.l0] at h
 | k + 1 => by
  have ih0 := bP.mono_l k
  intros; unfold bP.l0; exact o3_ ih0 br.mono bV.mono
theorem bP.mono : ∀ a0 a1 k, LeO (bP.f k a0 a1) (bP.f (k + 1) a0 a1) := by
 intro a0 a1 k
 have ih0 := bP.mono_l k
 unfold bP.f
 exact o3_ ih0 br.mono bV.mono
def bP.T5 : Bool × List (List Nat × List Nat) := (true, [([], []), ([], []), ([], []), ([1, 2], [1, 2]), ([3], [3]), ([], []), ([], []), ([5, 6], [5, 6]), ([7], [7]), ([4, 8], [4, 8]), ([0, 9, 9], [0, 9]), ([10, 10, 0, 1, 2, 3, 4, 5, 6, 7, 8, 9, 10], [0, 10])])
def bP.B5 : List Nat := [0, 0, 0, 6, 14, 0, 0, 96, 224, 510, 1023, 2047]
theorem bP.tab5 : eH .any (fJ Tryz.f35 5) = bP.T5 := by kernel_rfl
theorem bP.bits5 : dw bP.T5.2 bP.B5 = true := by kernel_rfl
theorem bP.calls (k : Nat) (A0 : Option Addr) (c0 : Nat) (l0 : List (List Int)) (A1 : Option Addr) (c1 : Nat) (l1 : List (List Int)) (r : List Int) (w : World) (hr0 : Kd.C (Kd.slice 3 (Kd.int .i64)) w A0 l0.length l0) (hc0 : l0.length ≤ c0) (hr1 : Kd.C (Kd.slice 3 (Kd.int .i64)) w A1 l1.length l1) (hc1 : l1.length ≤ c1) (h : bP.f k l0 l1 = some r) :
  Calls Tryz.prog 35 #[.slice A0 l0.length c0, .slice A1 l1.length c1] w fun e w' => ∃ g1 : Value, e = .returned (g1) ∧ Kd.R (Kd.int .i64) 3 w' w.heap.size (fun _ => True) g1 r ∧ Below w.heap.size w w' := by
 have j1 := c_ hr0
 have F1 := c_ hc0
 clear hr0 hc0
 have m1 := c_ hr1
 have G1 := c_ hc1
 clear hr1 hc1
 have HB := c_ (Da w.heap.size w)
 delta bP.f at h
 have H := h
 clear h
 obtain ⟨c3, H⟩ := iN_ H
 have n1 := Aa c3
 have p1 := ya c3
 clear c3
 obtain ⟨W0, n0⟩ : ∃ y_ : List Int, y_ = (List.replicate 256 0) := ⟨_, rfl⟩
 first | replace H := yb_ n0 H | rw [← n0] at H
 have H0 := c_ n0
 clear n0
 have H' := c_ H
 clear H
 go_enter Tryz.func35, Tryz.ntmps35
 go_wp2_with (first | ((refine cQ (N := 7) rfl ?_); refine vs (Kd.int .i64) _ 3 rfl (N := 7) rfl 33 _ _ rfl 256 rfl rfl Tryz.underlying33 (.int .i64 0) 8 di rfl (by decide) (by omega) 0 (ok := fun _ => True) (okp := fun _ => True) rfl (fun _ hk => hk) trivial (by omega) (by omega) (Da _ _) (Ca _) ?_; intro q1 w4 O0 hb hg_ hnew_; clear hg_ hnew_; (first | rw [← H0.o] at O0 | (simp only [Int.reduceToNat] at O0; rw [← H0.o] at O0)); obtain ⟨P0, HB⟩ := b_ (uY O0 (av (hB_))) <| sB_; clear hb O0))
 go_loopg [5, 10] k (fun kq v5 r1 w' => ∃ (y0 : List Int) (a0 : Int), r1 = .int .i64 a0 ∧ aa (bP.l0 kq l0 l1 y0 (l0.length : Int) a0 = some r) ∧ aa (kq ≤ k) ∧ aa (Kd.R (Kd.int .i64) 3 w' w.heap.size (fun _ => True) v5 y0) ∧ aa (Below w.heap.size w w'))
 case atStart => exact ⟨(W0), (0), f0_, H', ⟨Ca _⟩, ⟨rR_ P0.o⟩, ⟨hB_⟩⟩
 clear H'
 obtain ⟨y0, a0, rfl, HA, i1, b0, HB⟩ := hrel
 rcases gk with _ | k1
 ·exact absurd HA.o (by simp [bP.l0])
 have H := HA.o
 clear HA
 simp only [bP.l0] at H
 by_cases c6 : a0 < (l0.length : Int)
 rotate_left
 ·rw [Ga c6] at H
  have X0 := za c6
  clear c6
  obtain rfl := Ba H
  go_wp2
  go_ret
  exact ⟨_, f1_, rR_ b0.o, hB_⟩
 rw [Fa c6] at H
 have X0 := ya c6
 clear c6
 obtain ⟨t1, H⟩ := iD_ H
 obtain ⟨y1, H⟩ := iD_ H
 obtain ⟨z1, H⟩ := iD_ H
 obtain ⟨I0, B1, H⟩ := bN_ H
 obtain ⟨Q0, C1, H⟩ := bN_ H
 have H' := c_ H
 clear H
 try go_wp2
 obtain ⟨b0, HB⟩ := b_ (vh b0.o) <| c_ (bE HB.o)
 have J0 : 0 ≤ (a0 : Int) := oD_
 have K0 : a0 < (l0.length : Int) := oD_
 obtain ⟨R0, B0, C0, Y0, d0, p0, q0⟩ := mr j1.o a0 J0 K0
 have j0 := d0
 cases Y0
 replace d0 := hc_ d0
 have r0 := c_ q0
 have F0 := c_ p0
 clear q0 p0
 replace J0 := Aa J0
 replace K0 := Aa K0
 have L0 : 0 ≤ (a0 : Int) := oD_
 have M0 : a0 < (l1.length : Int) := oD_
 obtain ⟨S0, D0, E0, Z0, e0, t0, v0⟩ := mr m1.o a0 L0 M0
 have k0 := e0
 cases Z0
 replace e0 := hc_ e0
 have x0 := c_ v0
 have G0 := c_ t0
 clear v0 t0
 replace L0 := Aa L0
 replace M0 := Aa M0
 refine eI (n := 12) (S := fun w' => w'.cell? (R0.add (a0).toNat) = some (.slice B0 (dV l0 a0).length C0) ∧ w'.cell? (S0.add (a0).toNat) = some (.slice D0 (dV l1 a0).length E0)) (ds := []) (bb_ 12 0) (by kernel_rfl) rfl rfl ⟨(hc_ j0), (hc_ k0)⟩ (fun hHeld => ?_); refine cW bP.tab5 bP.bits5 (fun HT_ HW_ => ?_)
 generalize wr.drew = H1 at b0 HB r0 x0 d0 e0 hHeld ⊢
 refine pT_ 0 13 12 1 ?_
 refine pT_ 1 14 12 3 ?_
 refine pT_ 2 15 12 7 ?_
 refine pT_ 3 16 12 15 ?_
 refine pT_ 5 18 12 47 ?_
 refine pT_ 6 19 12 111 ?_
 refine pT_ 7 20 12 239 ?_
 refine tS_ 4 17 (bb_ 12 255) (bF HT_.o HW_.o (by kernel_rfl)) hHeld ?_
 refine tS_ 8 21 (bb_ 12 511) (bF HT_.o HW_.o (by kernel_rfl)) hHeld ?_
 refine gh (i := 9) (N := some 22) (bb_ 12 1023) rfl rfl (cO HT_.o (by kernel_rfl)) (by decide) (fun K hK => ?_)
 refine fX Tryz.func70 (by kernel_rfl) rfl #[.slice B0 (dV l0 a0).length C0, .slice D0 (dV l1 a0).length E0] (by rfl) rfl rfl aM_ ?_
 with_reducible refine (br.calls k1 _ _ (dV l0 a0) _ _ (dV l1 a0) I0 _ ?side1 ?side2 ?side3 ?side4 B1.o).mono ?_
 (case side1 => exact cR_ (vb r0.o HB.o))
 (case side2 => exact F0.o)
 (case side3 => exact cR_ (vb x0.o HB.o))
 (case side4 => exact G0.o)
 rintro e I1 ⟨D1, rfl, N0, hb⟩
 refine ⟨_, rfl, ?_⟩
 obtain ⟨b0, f0, HB⟩ := b_ (vg (rR_ b0.o) (vd N0) hb) <| b_ (uY (vq N0 (vF (rR_ b0.o))) (av (hB_))) <| sB_
 obtain ⟨b1, d1, T0⟩ := uV b0.o
 (first | subst T0 | (injection T0 with f1_ f2_ f3_; have f4_ := f1_.symm; have f5_ := f3_.symm; clear f1_ f2_ f3_; subst f4_; subst f5_))
 obtain ⟨e1, f1, U0⟩ := uV f0.o
 (first | subst U0 | (injection U0 with f1_ f2_ f3_; have f4_ := f1_.symm; have f5_ := f3_.symm; clear f1_ f2_ f3_; subst f4_; subst f5_))
 refine hK _ _ ⟨(hc_ j0), (hc_ k0)⟩ (fun hHeld => ?_)
 clear hK K
 refine er (a' := ?_) ?_ ?_
 rotate_left
 ·show Act.put _ (some 22) _ = _
  simp only [Act.put, List.setIfInBounds_toArray, List.set_cons_zero, List.set_cons_succ, bB, cG]
  rfl
 refine gh (i := 10) (N := some 23) (bb_ 12 2047) rfl rfl (cO HT_.o (by kernel_rfl)) (by decide) (fun K hK => ?_)
 refine fX Tryz.func33 (by kernel_rfl) rfl #[.slice b1 y0.length d1, .slice e1 I0.length f1] (by rfl) rfl rfl aM_ ?_
 with_reducible refine (bV.calls k1 _ _ y0 _ _ I0 Q0 _ ?side1 ?side2 ?side3 ?side4 C1.o).mono ?_
 (case side1 => exact cR_ (uU b0.o).2.2)
 (case side2 => exact (uU b0.o).2.1)
 (case side3 => exact cR_ (uU f0.o).2.2)
 (case side4 => exact (uU f0.o).2.1)
 rintro e J1 ⟨E1, rfl, N0, hb⟩
 refine ⟨_, rfl, ?_⟩
 obtain ⟨b0, f0, V0, HB⟩ := b_ (vg (rR_ b0.o) (vd N0) hb) <| b_ (vg (rR_ f0.o) (vd N0) hb) <| b_ (uY (vq (vq N0 (vF (rR_ b0.o))) (vF (rR_ f0.o))) (av (hB_))) <| sB_
 refine hK _ _ ⟨(hc_ j0), (hc_ k0)⟩ (fun hHeld => ?_)
 clear hK K
 refine er (a' := ?_) ?_ ?_
 rotate_left
 ·show Act.put _ (some 23) _ = _
  simp only [Act.put, List.setIfInBounds_toArray, List.set_cons_zero, List.set_cons_succ, bB, cG]
  rfl
 refine pT_ 11 5 12 4095 ?_
 refine fK (dN HT_.o (by kernel_rfl)) ?_
 try go_wp2
 go_roundg k1
 case measure => have := i1.o; omega
 case rel => exact ⟨(Q0), (wrap64 (a0 + 1)), f0_, H', ⟨by have := i1.o; omega⟩, ⟨by refine kR_ ?_; exact uW V0.o (fun _ hk => trivial)⟩, ⟨hB_⟩⟩
def eK.f (a0 : Int) (a1 : Int) : Option (Int) := (b8.f a0 0 3328).bind fun t664 => (if t664 = true then ((b8.f a1 1 11).bind fun t665 => (if t665 = true then (if 0 ≤ a1 then (if (shl .i64 1 a1) = 0 then (none) else (some (Int.tmod (wrap64 (Int.tdiv (wrap64 ((shl .i64 a0 a1) + 1664)) 3329)) (shl .i64 1 a1)))) else (none)) else (some 0))) else (some 0))
theorem eK.calls (a0 : Int) (a1 : Int) (r : Int) (w : World) (h : eK.f a0 a1 = some r) :
  Calls Tryz.prog 72 #[.int .i64 a0, .int .i64 a1] w fun e w' => e = .returned (.int .i64 r) ∧ cx w w' := by
 delta eK.f at h
 have H := h
 clear h
 obtain ⟨r0, A3, H⟩ := bN_ H
 by_cases c4 : r0 = true
 ·subst c4
  replace H := iT_ H
  obtain ⟨t0, A5, H⟩ := bN_ H
  by_cases c6 : t0 = true
  ·subst c6
   replace H := iT_ H
   obtain ⟨c7, H⟩ := iN_ H
   have y0 := Aa c7
   have B0 := ya c7
   clear c7
   obtain ⟨p0, e0⟩ : ∃ j_ : Int, (shl .i64 a0 a1) = j_ := ⟨_, rfl⟩
   first | rw [e0] at H | simp only [e0] at H
   (try rw [e0] at A3)
   (try rw [e0] at A5)
   have k0 : (IntKind.i64.wrap (a0 * 2 ^ min a1.toNat 64)) = p0 := e0
   have n0 : a1 ≤ 64 → (IntKind.i64.wrap (a0 * 2 ^ a1.toNat)) = p0 := fI e0
   have hji8y : (wrap64 (a0 * 2 ^ min a1.toNat 64)) = p0 := (bB _).symm.trans k0
   have hji8x : a1 ≤ 64 → (wrap64 (a0 * 2 ^ a1.toNat)) = p0 := fun h_ => (bB _).symm.trans (n0 h_)
   have C0 := Aa (oD_ : 0 ≤ a1)
   obtain ⟨d0, b0⟩ : ∃ j_ : Int, (shl .i64 1 a1) = j_ := ⟨_, rfl⟩
   first | rw [b0] at H | simp only [b0] at H
   (try rw [b0] at A3)
   (try rw [b0] at A5)
   have f0 : (IntKind.i64.wrap (1 * 2 ^ min a1.toNat 64)) = d0 := b0
   have j0 : a1 ≤ 64 → (IntKind.i64.wrap (1 * 2 ^ a1.toNat)) = d0 := fI b0
   have hji10u : (IntKind.i64.wrap (2 ^ min a1.toNat 64)) = d0 := by have h_ := f0; rw [Int.one_mul] at h_; exact h_
   have hji10v : a1 ≤ 64 → (IntKind.i64.wrap (2 ^ a1.toNat)) = d0 := fun hle_ => by have h_ := j0 hle_; rw [Int.one_mul] at h_; exact h_
   have hji10y : (wrap64 (1 * 2 ^ min a1.toNat 64)) = d0 := (bB _).symm.trans f0
   have hji10x : a1 ≤ 64 → (wrap64 (1 * 2 ^ a1.toNat)) = d0 := fun h_ => (bB _).symm.trans (j0 h_)
   by_cases q0 : (d0) = 0
   ·rw [Fa q0] at H
    exact absurd H (by simp)
   rw [Ga q0] at H
   have v0 : ((d0) == 0) = false := beq_eq_false_iff_ne.mpr q0
   have x0 : ((d0) != 0) = true := bne_iff_ne.mpr q0
   obtain rfl := Ba H
   go_enter Tryz.func72, Tryz.ntmps72
   go_wp2_with (first | (go_at_call 100; refine mp_ (b8.calls _ _ _ _ _ A3.o) fun nd => ?_; (try exact dD_)) | (go_at_call 100; refine mp_ (b8.calls _ _ _ _ _ A5.o) fun nd => ?_; (try exact dD_)))
   repeat (go_quiet (first | (go_at_call 100; refine mp_ (b8.calls _ _ _ _ _ A3.o) fun nd => ?_; (try exact dD_)) | (go_at_call 100; refine mp_ (b8.calls _ _ _ _ _ A5.o) fun nd => ?_; (try exact dD_))); try go_wp2)
   go_ret
   exact ⟨by first | rfl | (simp; done) | (simp only [← e0, ← b0] <;> (first | rfl | simp)) | (simp [*]; done), d0_⟩
  ·replace c6 := Ea c6
   subst c6
   replace H := iF_ H
   obtain rfl := Ba H
   go_enter Tryz.func72, Tryz.ntmps72
   go_wp2_with (first | (go_at_call 100; refine mp_ (b8.calls _ _ _ _ _ A3.o) fun nd => ?_; (try exact dD_)) | (go_at_call 100; refine mp_ (b8.calls _ _ _ _ _ A5.o) fun nd => ?_; (try exact dD_)))
   repeat (go_quiet (first | (go_at_call 100; refine mp_ (b8.calls _ _ _ _ _ A3.o) fun nd => ?_; (try exact dD_)) | (go_at_call 100; refine mp_ (b8.calls _ _ _ _ _ A5.o) fun nd => ?_; (try exact dD_))); try go_wp2)
   go_ret
   exact ⟨f0_, d0_⟩
 ·replace c4 := Ea c4
  subst c4
  replace H := iF_ H
  obtain rfl := Ba H
  go_enter Tryz.func72, Tryz.ntmps72
  go_wp2_with (first | (go_at_call 100; refine mp_ (b8.calls _ _ _ _ _ A3.o) fun nd => ?_; (try exact dD_)))
  repeat (go_quiet (first | (go_at_call 100; refine mp_ (b8.calls _ _ _ _ _ A3.o) fun nd => ?_; (try exact dD_))); try go_wp2)
  go_ret
  exact ⟨f0_, d0_⟩
def bs.l0 : Nat → Int → List Int → List Int → Int → Int → Option (List Int)
 | 0, _, _, _, _, _ => none
 | k + 1, x1, x5, x8, x9, x10 => if x10 < x9 then (if 0 ≤ x10 then (if x10 < (x8.length : Int) then ((eK.f (rd x8 x10) x1).bind fun t667 => (if x5.length < 17592186044416 then (bs.l0 k x1 (x5 ++ [t667]) x8 x9 (wrap64 (x10 + 1))) else (none))) else (none)) else (none)) else (some x5)
def bs.f (k : Nat) (l0 : List Int) (a1 : Int) : Option (List Int) := bs.l0 k a1 ([] : List Int) l0 (l0.length : Int) 0
theorem bs.mono_l : ∀ k, (∀ y0 y1 y2 y3 y4, LeO (bs.l0 k y0 y1 y2 y3 y4) (bs.l0 (k + 1) y0 y1 y2 y3 y4))
 | 0 => fun _ _ _ _ _ r h => by simp [bs.l0] at h
 | k + 1 => by
  have ih0 := bs.mono_l k
  intros; unfold bs.l0; exact o1_ ih0
theorem bs.mono : ∀ a0 a1 k, LeO (bs.f k a0 a1) (bs.f (k + 1) a0 a1) := by
 intro a0 a1 k
 have ih0 := bs.mono_l k
 unfold bs.f
 exact o1_ ih0
theorem bs.calls (k : Nat) (A0 : Option Addr) (c0 : Nat) (l0 : List Int) (a1 : Int) (r : List Int) (w : World) (hr0 : Kd.C (Kd.int .i64) w A0 l0.length l0) (hc0 : l0.length ≤ c0) (h : bs.f k l0 a1 = some r) :
  Calls Tryz.prog 38 #[.slice A0 l0.length c0, .int .i64 a1] w fun e w' => ∃ y0 : Value, e = .returned (y0) ∧ Kd.R (Kd.int .i64) 3 w' w.heap.size (fun _ => True) y0 r ∧ Below w.heap.size w w' := by
 have D0 := c_ hr0
 have I0 := c_ hc0
 clear hr0 hc0
 have HB := c_ (Da w.heap.size w)
 delta bs.f at h
 have H := h
 clear h
 have H' := c_ H
 clear H
 go_enter Tryz.func38, Tryz.ntmps38
 go_wp2
 go_loopg [5, 10] k (fun kq v5 E0 w' => ∃ (e0 : List Int) (a0 : Int), E0 = .int .i64 a0 ∧ aa (bs.l0 kq a1 e0 l0 (l0.length : Int) a0 = some r) ∧ aa (kq ≤ k) ∧ aa (Kd.R (Kd.int .i64) 3 w' w.heap.size (fun _ => True) v5 e0) ∧ aa (Below w.heap.size w w'))
 case atStart => exact ⟨(([] : List Int)), (0), f0_, H', ⟨Ca _⟩, ⟨by first | exact vB _ _ _ _ _ | exact Kd.N_nil _ _ _ _ _ | exact Kd.V_nil _ _ _ _ _ | exact Kd.Q_nil _ _ _ _ _ | exact vC _ _ _ _ _⟩, ⟨hB_⟩⟩
 clear H'
 obtain ⟨e0, a0, rfl, HA, B0, k0, HB⟩ := hrel
 rcases gk with _ | k1
 ·exact absurd HA.o (by simp [bs.l0])
 have H := HA.o
 clear HA
 simp only [bs.l0] at H
 by_cases c3 : a0 < (l0.length : Int)
 rotate_left
 ·rw [Ga c3] at H
  have q0 := za c3
  clear c3
  obtain rfl := Ba H
  go_wp2
  go_ret
  exact ⟨_, f1_, rR_ k0.o, hB_⟩
 rw [Fa c3] at H
 have q0 := ya c3
 clear c3
 obtain ⟨F0, H⟩ := iD_ H
 obtain ⟨G0, H⟩ := iD_ H
 obtain ⟨r0, A6, H⟩ := bN_ H
 obtain ⟨c7, H⟩ := iN_ H
 have t0 := c_ c7
 clear c7
 obtain ⟨v0, b0⟩ : ∃ y_ : List Int, y_ = (e0 ++ [r0]) := ⟨_, rfl⟩
 first | replace H := yb_ b0 H | rw [← b0] at H
 have n0 := c_ b0
 clear b0
 have H' := c_ H
 clear H
 have f0 : 0 ≤ (a0 : Int) := oD_
 have j0 : a0 < (l0.length : Int) := oD_
 obtain ⟨C0, x0, d0⟩ := uX D0.o a0 f0 j0
 cases x0
 replace d0 := hc_ d0
 replace f0 := Aa f0
 replace j0 := Aa j0
 go_wp2_with (first | (refine gp_ (k_ 17 Tryz.func72) (eK.calls _ _ _ _ A6.o) fun nd => ?_) | (refine ga_ 14 18 ?_; at_builtin; refine ap_ k0 n0 t0 Tryz.underlying33 di fun H0 w8 p0 HB hg hat => ?_))
 go_roundg k1
 case measure => have := B0.o; omega
 case rel => exact ⟨(v0), (wrap64 (a0 + 1)), f0_, H', ⟨by have := B0.o; omega⟩, ⟨rR_ p0.o⟩, ⟨hB_⟩⟩
end Go.Proofs.YtmiackbomcjboaaGreatDoor.P
