-- printed texts of this session, regrouped
import Derived.Test.YtielligodgabiaaGreatDoorMWC
import Derived.Test.YtielligodgabiaaGreatDoorMWA
import Derived.Test.YtielligodgabiaaGreatDoorMW7
import Derived.Test.YtielligodgabiaaGreatDoorMW6
import Derived.Test.YtielligodgabiaaGreatDoorPx0
import Derived.Test.YtielligodgabiaaGreatDoorPx1
import Derived.Test.YtielligodgabiaaGreatDoorPx2
namespace Go.Proofs.YtielligodgabiaaGreatDoor.P
open Go.RowKit YtielligodgabiaaGreatDoorW.PrintWords YtielligodgabiaaGreatDoorW.PrintLast YtielligodgabiaaGreatDoorW.PrintMore
attribute [local go_sem] dJ dC ej eh dh di dB dK   -- for this text's walks alone
set_option linter.unusedVariables false
set_option linter.unusedSimpArgs false
set_option maxHeartbeats 8000000
set_option maxRecDepth 100000

/-! ### af: function 102 -/
mutual
def af.l0 : Nat → List Int → List Int → Int → List Int → Int → Option (List Int)
 | 0, _, _, _, _, _ => none
 | k + 1, x0, x1, x2, x7, x8 => if x8 < 5 then (if 0 ≤ x8 then (if x8 < (x0.length : Int) then (if 0 ≤ (wrap64 (x8 + 5)) then (if (wrap64 (x8 + 5)) < (x0.length : Int) then (if 0 ≤ (wrap64 (x8 + 10)) then (if (wrap64 (x8 + 10)) < (x0.length : Int) then (if 0 ≤ (wrap64 (x8 + 15)) then (if (wrap64 (x8 + 15)) < (x0.length : Int) then (if 0 ≤ (wrap64 (x8 + 20)) then (if (wrap64 (x8 + 20)) < (x0.length : Int) then (if x8 < (x7.length : Int) then (af.l0 k x0 x1 x2 (x7.set (x8 : Int).toNat (Go.bits .xor .u64 (Go.bits .xor .u64 (Go.bits .xor .u64 (Go.bits .xor .u64 (rd x0 x8) (rd x0 (wrap64 (x8 + 5)))) (rd x0 (wrap64 (x8 + 10)))) (rd x0 (wrap64 (x8 + 15)))) (rd x0 (wrap64 (x8 + 20))))) (wrap64 (x8 + 1))) else (none)) else (none)) else (none)) else (none)) else (none)) else (none)) else (none)) else (none)) else (none)) else (none)) else (none)) else (if 25 ≤ 35184372088832 then (af.l1 k x0 x1 x2 x7 (List.replicate 25 0) 0) else (none))
def af.l1 : Nat → List Int → List Int → Int → List Int → List Int → Int → Option (List Int)
 | 0, _, _, _, _, _, _ => none
 | k + 1, x0, x1, x2, x7, x9, x10 => if x10 < 5 then (if 0 ≤ (Int.tmod (wrap64 (x10 + 4)) 5) then (if (Int.tmod (wrap64 (x10 + 4)) 5) < (x7.length : Int) then (if 0 ≤ (Int.tmod (wrap64 (x10 + 1)) 5) then (if (Int.tmod (wrap64 (x10 + 1)) 5) < (x7.length : Int) then ((bm.f k (rd x7 (Int.tmod (wrap64 (x10 + 1)) 5)) 1).bind fun t280 => (af.l2 k x0 x1 x2 x7 x9 x10 (Go.bits .xor .u64 (rd x7 (Int.tmod (wrap64 (x10 + 4)) 5)) t280) 0)) else (none)) else (none)) else (none)) else (none)) else (if 25 ≤ 35184372088832 then (af.l3 k x2 x9 (List.replicate 25 0) 0) else (none))
def af.l2 : Nat → List Int → List Int → Int → List Int → List Int → Int → Int → Int → Option (List Int)
 | 0, _, _, _, _, _, _, _, _ => none
 | k + 1, x0, x1, x2, x7, x9, x10, x11, x12 => if x12 < 5 then (if 0 ≤ (wrap64 (x10 + (wrap64 (5 * x12)))) then (if (wrap64 (x10 + (wrap64 (5 * x12)))) < (x0.length : Int) then (if (wrap64 (x10 + (wrap64 (5 * x12)))) < (x1.length : Int) then ((bm.f k (Go.bits .xor .u64 (rd x0 (wrap64 (x10 + (wrap64 (5 * x12))))) x11) (rd x1 (wrap64 (x10 + (wrap64 (5 * x12)))))).bind fun t283 => (if 0 ≤ (wrap64 (x12 + (wrap64 (5 * (Int.tmod (wrap64 ((wrap64 (2 * x10)) + (wrap64 (3 * x12)))) 5))))) then (if (wrap64 (x12 + (wrap64 (5 * (Int.tmod (wrap64 ((wrap64 (2 * x10)) + (wrap64 (3 * x12)))) 5))))) < (x9.length : Int) then (af.l2 k x0 x1 x2 x7 (x9.set ((wrap64 (x12 + (wrap64 (5 * (Int.tmod (wrap64 ((wrap64 (2 * x10)) + (wrap64 (3 * x12)))) 5))))) : Int).toNat t283) x10 x11 (wrap64 (x12 + 1))) else (none)) else (none))) else (none)) else (none)) else (none)) else (af.l1 k x0 x1 x2 x7 x9 (wrap64 (x10 + 1)))
def af.l3 : Nat → Int → List Int → List Int → Int → Option (List Int)
 | 0, _, _, _, _ => none
 | k + 1, x2, x9, x13, x14 => if x14 < 5 then (af.l4 k x2 x9 x13 x14 0) else (if 0 < (x13.length : Int) then (some (x13.set (0 : Int).toNat (Go.bits .xor .u64 (rd x13 0) x2))) else (none))
def af.l4 : Nat → Int → List Int → List Int → Int → Int → Option (List Int)
 | 0, _, _, _, _, _ => none
 | k + 1, x2, x9, x13, x14, x15 => if x15 < 5 then (if 0 ≤ (wrap64 (x14 + (wrap64 (5 * x15)))) then (if (wrap64 (x14 + (wrap64 (5 * x15)))) < (x9.length : Int) then (if 0 ≤ (wrap64 ((Int.tmod (wrap64 (x14 + 1)) 5) + (wrap64 (5 * x15)))) then (if (wrap64 ((Int.tmod (wrap64 (x14 + 1)) 5) + (wrap64 (5 * x15)))) < (x9.length : Int) then (if 0 ≤ (wrap64 ((Int.tmod (wrap64 (x14 + 2)) 5) + (wrap64 (5 * x15)))) then (if (wrap64 ((Int.tmod (wrap64 (x14 + 2)) 5) + (wrap64 (5 * x15)))) < (x9.length : Int) then (if (wrap64 (x14 + (wrap64 (5 * x15)))) < (x13.length : Int) then (af.l4 k x2 x9 (x13.set ((wrap64 (x14 + (wrap64 (5 * x15)))) : Int).toNat (Go.bits .xor .u64 (rd x9 (wrap64 (x14 + (wrap64 (5 * x15))))) (Go.bits .and .u64 (IntKind.u64.wrap (18446744073709551615 - (rd x9 (wrap64 ((Int.tmod (wrap64 (x14 + 1)) 5) + (wrap64 (5 * x15))))))) (rd x9 (wrap64 ((Int.tmod (wrap64 (x14 + 2)) 5) + (wrap64 (5 * x15)))))))) x14 (wrap64 (x15 + 1))) else (none)) else (none)) else (none)) else (none)) else (none)) else (none)) else (none)) else (af.l3 k x2 x9 x13 (wrap64 (x14 + 1)))
end
def af.f (k : Nat) (l0 : List Int) (l1 : List Int) (a2 : Int) : Option (List Int) := if 5 ≤ 35184372088832 then (af.l0 k l0 l1 a2 (List.replicate 5 0) 0) else (none)
theorem af.mono_l : ∀ k, (∀ y0 y1 y2 y3 y4, LeO (af.l0 k y0 y1 y2 y3 y4) (af.l0 (k + 1) y0 y1 y2 y3 y4)) ∧ (∀ y0 y1 y2 y3 y4 y5, LeO (af.l1 k y0 y1 y2 y3 y4 y5) (af.l1 (k + 1) y0 y1 y2 y3 y4 y5)) ∧ (∀ y0 y1 y2 y3 y4 y5 y6 y7, LeO (af.l2 k y0 y1 y2 y3 y4 y5 y6 y7) (af.l2 (k + 1) y0 y1 y2 y3 y4 y5 y6 y7)) ∧ (∀ y0 y1 y2 y3, LeO (af.l3 k y0 y1 y2 y3) (af.l3 (k + 1) y0 y1 y2 y3)) ∧ (∀ y0 y1 y2 y3 y4, LeO (af.l4 k y0 y1 y2 y3 y4) (af.l4 (k + 1) y0 y1 y2 y3 y4))
 | 0 => ⟨fun _ _ _ _ _ r h => by simp [af.l0] at h, fun _ _ _ _ _ _ r h => by simp [af.l1] at h, fun _ _ _ _ _ _ _ _ r h => by simp [af.l2] at h, fun _ _ _ _ r h => by simp [af.l3] at h, fun _ _ _ _ _ r h => by simp [af.l4] at h⟩
 | k + 1 => by
  obtain ⟨ih0, ih1, ih2, ih3, ih4⟩ := af.mono_l k
  refine ⟨?_, ?_, ?_, ?_, ?_⟩ <;> (intros; (first | unfold af.l0 | unfold af.l1 | unfold af.l2 | unfold af.l3 | unfold af.l4); exact o6_ ih0 ih1 ih2 ih3 ih4 bm.mono)
theorem af.mono : ∀ a0 a1 a2 k, LeO (af.f k a0 a1 a2) (af.f (k + 1) a0 a1 a2) := by
 intro a0 a1 a2 k
 obtain ⟨ih0, ih1, ih2, ih3, ih4⟩ := af.mono_l k
 unfold af.f
 exact o6_ ih0 ih1 ih2 ih3 ih4 bm.mono
def af.T5 : Bool × List (List Nat × List Nat) := (true, [([], []), ([], []), ([], []), ([], []), ([2, 3], [2, 3]), ([4], [4]), ([], []), ([], []), ([7], [7]), ([6, 8], [6, 8]), ([9], [9]), ([5, 10], [5, 10]), ([], []), ([], []), ([13], [13]), ([12, 14], [12, 14]), ([15], [15]), ([11, 16], [11, 16]), ([], []), ([], []), ([19], [19]), ([18, 20], [18, 20]), ([21], [21]), ([17, 22], [17, 22]), ([], []), ([], []), ([25], [25]), ([24, 26], [24, 26]), ([27], [27]), ([23, 28], [23, 28]), ([0, 1, 0, 1, 2, 3, 4, 5, 6, 7, 8, 9, 10, 11, 12, 13, 14, 15, 16, 17, 18, 19, 20, 21, 22, 23, 24, 25, 26, 27, 28, 29], [0, 1]), ([30, 29, 0, 1, 2, 3, 4, 5, 6, 7, 8, 9, 10, 11, 12, 13, 14, 15, 16, 17, 18, 19, 20, 21, 22, 23, 24, 25, 26, 27, 28, 29], [29, 30])])
def af.B5 : List Nat := [0, 0, 0, 0, 12, 28, 0, 0, 128, 448, 960, 2044, 0, 0, 8192, 28672, 61440, 131068, 0, 0, 524288, 1835008, 3932160, 8388604, 0, 0, 33554432, 117440512, 251658240, 536870908, 1073741823, 2147483647]
theorem af.tab5 : dW .any (eW Tryz.f102 5) = af.T5 := by kernel_rfl
theorem af.bits5 : cZ af.T5.2 af.B5 = true := by kernel_rfl
def af.T10 : Bool × List (List Nat × List Nat) := (true, [([], []), ([], []), ([1], [1]), ([2], [2]), ([0, 3], [0, 3]), ([4], [4]), ([], []), ([], []), ([7], [7]), ([8], [8]), ([6, 9], [6, 9]), ([10], [10]), ([11], [11]), ([5, 12], [5, 12]), ([13, 12, 0, 1, 2, 3, 4, 5, 6, 7, 8, 9, 10, 11, 12, 13], [13])])
def af.B10 : List Nat := [0, 0, 2, 6, 15, 31, 0, 0, 128, 384, 960, 1984, 4032, 8191, 16383]
theorem af.tab10 : dW .any (eW Tryz.f102 10) = af.T10 := by kernel_rfl
theorem af.bits10 : cZ af.T10.2 af.B10 = true := by kernel_rfl
def af.T14 : Bool × List (List Nat × List Nat) := (true, [([], []), ([], []), ([], []), ([2], [2]), ([], []), ([4], [4]), ([3, 5], [3, 5]), ([6], [6]), ([7], [7]), ([1, 8], [1, 8]), ([], []), ([], []), ([], []), ([12], [12]), ([11, 13], [11, 13]), ([10, 14], [10, 14]), ([15], [15]), ([], []), ([16, 17], [16, 17]), ([], []), ([], []), ([], []), ([21], [21]), ([20, 22], [20, 22]), ([19, 23], [19, 23]), ([24], [24]), ([18, 25], [18, 25]), ([0, 9, 0, 1, 2, 3, 4, 5, 6, 7, 8, 9, 10, 11, 12, 13, 14, 15, 16, 17, 18, 19, 20, 21, 22, 23, 24, 25, 26], [0, 9]), ([27, 26, 26, 0, 1, 2, 3, 4, 5, 6, 7, 8, 9, 10, 11, 12, 13, 14, 15, 16, 17, 18, 19, 20, 21, 22, 23, 24, 25, 26], [26, 27])])
def af.B14 : List Nat := [0, 0, 0, 4, 0, 16, 60, 124, 252, 510, 0, 0, 0, 4096, 14336, 31744, 64512, 0, 261120, 0, 0, 0, 2097152, 7340032, 16252928, 33030144, 67107840, 134217727, 268435455]
theorem af.tab14 : dW .any (eW Tryz.f102 14) = af.T14 := by kernel_rfl
theorem af.bits14 : cZ af.T14.2 af.B14 = true := by kernel_rfl
def af.T22 : Bool × List (List Nat × List Nat) := (true, [([], []), ([], []), ([], []), ([2], [2]), ([1, 3], [1, 3]), ([], []), ([], []), ([], []), ([7], [7]), ([6, 8], [6, 8]), ([5, 9], [5, 9]), ([10], [10]), ([], []), ([], []), ([13], [13]), ([14], [14]), ([], []), ([16], [16]), ([15, 17], [15, 17]), ([12, 18], [12, 18]), ([19], [19]), ([20], [20]), ([], []), ([], []), ([23], [23]), ([24], [24]), ([], []), ([26], [26]), ([25, 27], [25, 27]), ([22, 28], [22, 28]), ([29], [29]), ([21, 30], [21, 30]), ([11, 31], [11, 31]), ([0, 4, 0, 1, 2, 3, 4, 5, 6, 7, 8, 9, 10, 11, 12, 13, 14, 15, 16, 17, 18, 19, 20, 21, 22, 23, 24, 25, 26, 27, 28, 29, 30, 31, 32], [0, 4]), ([33, 32, 0, 1, 2, 3, 4, 5, 6, 7, 8, 9, 10, 11, 12, 13, 14, 15, 16, 17, 18, 19, 20, 21, 22, 23, 24, 25, 26, 27, 28, 29, 30, 31, 32], [32, 33])])
def af.B22 : List Nat := [0, 0, 0, 4, 14, 0, 0, 0, 128, 448, 992, 2016, 0, 0, 8192, 24576, 0, 65536, 253952, 520192, 1044480, 2093056, 0, 0, 8388608, 25165824, 0, 67108864, 260046848, 532676608, 1069547520, 2147479552, 4294967264, 8589934591, 17179869183]
theorem af.tab22 : dW .any (eW Tryz.f102 22) = af.T22 := by kernel_rfl
theorem af.bits22 : cZ af.T22.2 af.B22 = true := by kernel_rfl
theorem af.calls (k : Nat) (A0 : Option Addr) (c0 : Nat) (l0 : List Int) (A1 : Option Addr) (c1 : Nat) (l1 : List Int) (a2 : Int) (r : List Int) (w : World) (hr0 : Kd.C (Kd.int .u64) w A0 l0.length l0) (hc0 : l0.length ≤ c0) (hr1 : Kd.C (Kd.int .i64) w A1 l1.length l1) (hc1 : l1.length ≤ c1) (h : af.f k l0 l1 a2 = some r) :
  Calls Tryz.prog 102 #[.slice A0 l0.length c0, .slice A1 l1.length c1, .int .u64 a2] w fun e w' => ∃ R4 : Value, e = .returned (R4) ∧ Kd.R (Kd.int .u64) 91 w' w.heap.size (fun _ => True) R4 r ∧ Below w.heap.size w w' := by
 have M2 := aa.mk hr0
 have i6 := aa.mk hc0
 clear hr0 hc0
 have N5 := aa.mk hr1
 have k6 := aa.mk hc1
 clear hr1 hc1
 have HB := aa.mk (xa w.heap.size w)
 delta af.f at h
 have H := h
 clear h
 obtain ⟨c4, H⟩ := iN_ H
 have O5 := va c4
 have P5 := ta c4
 clear c4
 obtain ⟨J3, Y0⟩ : ∃ y_ : List Int, y_ = (List.replicate 5 0) := ⟨_, rfl⟩
 first | replace H := yb_ Y0 H | rw [← Y0] at H
 have T1 := aa.mk Y0
 clear Y0
 have H' := aa.mk H
 clear H
 go_enter Tryz.func102, Tryz.ntmps102
 go_wp2_with (first | ((with_reducible refine aI (N := 16) rfl ?_); refine Kd.R_make (Kd.int .u64) _ 91 rfl (N := 16) rfl 89 _ _ rfl 5 rfl rfl Tryz.underlying89 (.int .u64 0) 8 jp rfl (by decide) (by omega) 0 (ok := fun _ => True) (okp := fun _ => True) rfl (fun _ hk => hk) trivial (by omega) (by omega) (xa _ _) (wa _) ?_; intro Y1 w5 R2 hb hg_ hnew_; clear hg_ hnew_; (first | rw [← T1.out] at R2 | (simp only [Int.reduceToNat] at R2; rw [← T1.out] at R2)); have n_ := b_ (Kd.R_lower R2 (ab (hB_))) <| c_ (ac (hB_) hb); clear HB; obtain ⟨T2, HB⟩ := n_; clear hb R2))
 go_loopg [8] k (fun kq v8 w' => ∃ (k0 : List Int) (e0 : Int), v8 = .int .i64 e0 ∧ aa (af.l0 kq l0 l1 a2 k0 e0 = some r) ∧ aa (kq ≤ k) ∧ aa (Kd.R (Kd.int .u64) 91 w' w.heap.size (fun _ => True) Y1 k0) ∧ aa (Below w.heap.size w w'))
 case atStart => exact ⟨(J3), (0), f0_, H', ⟨wa _⟩, ⟨rR_ T2.out⟩, ⟨hB_⟩⟩
 clear H'
 obtain ⟨k0, e0, rfl, HA, P1, b0, HB⟩ := hrel
 rcases gk with _ | k1
 ·exact absurd HA.out (by simp [af.l0])
 have H := HA.out
 clear HA
 simp only [af.l0] at H
 by_cases c7 : e0 < 5
 ·rw [za c7] at H
  have K3 := ta c7
  clear c7
  obtain ⟨Q5, H⟩ := iD_ H
  obtain ⟨R5, H⟩ := iD_ H
  obtain ⟨O0, F1⟩ : ∃ j_ : Int, (wrap64 (e0 + 5)) = j_ := ⟨_, rfl⟩
  first | rw [F1] at H | simp only [F1] at H
  have L3 : (IntKind.i64.wrap (e0 + 5)) = O0 := (bB _).trans F1
  obtain ⟨S4, H⟩ := iD_ H
  obtain ⟨T4, H⟩ := iD_ H
  obtain ⟨P0, G1⟩ : ∃ j_ : Int, (wrap64 (e0 + 10)) = j_ := ⟨_, rfl⟩
  first | rw [G1] at H | simp only [G1] at H
  have M3 : (IntKind.i64.wrap (e0 + 10)) = P0 := (bB _).trans G1
  obtain ⟨U4, H⟩ := iD_ H
  obtain ⟨V4, H⟩ := iD_ H
  obtain ⟨Q0, H1⟩ : ∃ j_ : Int, (wrap64 (e0 + 15)) = j_ := ⟨_, rfl⟩
  first | rw [H1] at H | simp only [H1] at H
  have N3 : (IntKind.i64.wrap (e0 + 15)) = Q0 := (bB _).trans H1
  obtain ⟨W4, H⟩ := iD_ H
  obtain ⟨X4, H⟩ := iD_ H
  obtain ⟨R0, I1⟩ : ∃ j_ : Int, (wrap64 (e0 + 20)) = j_ := ⟨_, rfl⟩
  first | rw [I1] at H | simp only [I1] at H
  have O3 : (IntKind.i64.wrap (e0 + 20)) = R0 := (bB _).trans I1
  obtain ⟨Y4, H⟩ := iD_ H
  obtain ⟨Z4, H⟩ := iD_ H
  obtain ⟨b5, H⟩ := iD_ H
  obtain ⟨P3, Z0⟩ : ∃ y_ : List Int, y_ = (k0.set (e0 : Int).toNat (Go.bits .xor .u64 (Go.bits .xor .u64 (Go.bits .xor .u64 (Go.bits .xor .u64 (rd l0 e0) (rd l0 (O0))) (rd l0 (P0))) (rd l0 (Q0))) (rd l0 (R0)))) := ⟨_, rfl⟩
  first | replace H := yb_ Z0 H | rw [← Z0] at H
  have U2 := aa.mk Z0
  clear Z0
  have H' := aa.mk H
  clear H
  try go_wp2
  have n_ := b_ (Kd.R_drew b0.out) <| c_ (bX HB.out)
  clear b0 HB
  obtain ⟨b0, HB⟩ := n_
  have Z1 : 0 ≤ (e0 : Int) := oD_
  have b2 : e0 < (l0.length : Int) := oD_
  obtain ⟨x0, Q3, y0⟩ := Kd.at_int M2.out e0 Z1 b2
  have b1 := y0
  cases Q3
  replace y0 := (HB.out.cell (World.block_lt_of_cell? w _ y0)).trans y0
  replace Z1 := va Z1
  replace b2 := va b2
  have c2 : 0 ≤ ((O0) : Int) := oD_
  have e2 : (O0) < (l0.length : Int) := oD_
  obtain ⟨V2, R3, B0⟩ := Kd.at_int M2.out (O0) c2 e2
  have d1 := B0
  obtain rfl : x0 = V2 := (by injection R3)
  replace B0 := (HB.out.cell (World.block_lt_of_cell? w _ B0)).trans B0
  replace c2 := va c2
  replace e2 := va e2
  have f2 : 0 ≤ ((P0) : Int) := oD_
  have g2 : (P0) < (l0.length : Int) := oD_
  obtain ⟨X2, S3, C0⟩ := Kd.at_int M2.out (P0) f2 g2
  have e1 := C0
  obtain rfl : x0 = X2 := (by injection S3)
  replace C0 := (HB.out.cell (World.block_lt_of_cell? w _ C0)).trans C0
  replace f2 := va f2
  replace g2 := va g2
  have i2 : 0 ≤ ((Q0) : Int) := oD_
  have j2 : (Q0) < (l0.length : Int) := oD_
  obtain ⟨Y2, T3, D0⟩ := Kd.at_int M2.out (Q0) i2 j2
  have f1 := D0
  obtain rfl : x0 = Y2 := (by injection T3)
  replace D0 := (HB.out.cell (World.block_lt_of_cell? w _ D0)).trans D0
  replace i2 := va i2
  replace j2 := va j2
  have m2 : 0 ≤ ((R0) : Int) := oD_
  have n2 : (R0) < (l0.length : Int) := oD_
  obtain ⟨Z2, U3, E0⟩ := Kd.at_int M2.out (R0) m2 n2
  have g1 := E0
  obtain rfl : x0 = Z2 := (by injection U3)
  replace E0 := (HB.out.cell (World.block_lt_of_cell? w _ E0)).trans E0
  replace m2 := va m2
  replace n2 := va n2
  have V3 : 0 ≤ (e0 : Int) := oD_
  have W3 : (e0 : Int) < ((k0.length : Int) : Int) := oD_
  obtain ⟨go23, S5, b3, c3, gl23, cl23, HG23⟩ := Kd.R_form b0.out (by omega)
  (first | cases b3 | (injection b3 with ea_ en_ ec_; (first | subst ea_ | (injection ea_ with ea_; subst ea_)); subst ec_; clear en_))
  have X3 := aa.mk c3
  have GG23 := aa.mk HG23
  clear c3 gl23 HG23
  obtain ⟨p2, hf23_0⟩ := Kd.R_celln 0 b0.out (e0 : Int) V3 W3
  replace V3 := va V3
  replace W3 := va W3
  have HP25 := Kd.R_putn b0.out (e0 : Int) (Go.bits .xor .u64 (Go.bits .xor .u64 (Go.bits .xor .u64 (Go.bits .xor .u64 (rd l0 e0) (rd l0 (O0))) (rd l0 (P0))) (rd l0 (Q0))) (rd l0 (R0)))
  rw [← U2.out] at HP25
  have HQ25 := aa.mk HP25
  clear HP25
  refine dY (n := 32) (S := fun w' => w'.cell? (x0.add (e0).toNat) = some (.int .u64 (rd l0 e0)) ∧ w'.cell? (x0.add ((O0)).toNat) = some (.int .u64 (rd l0 (O0))) ∧ w'.cell? (x0.add ((P0)).toNat) = some (.int .u64 (rd l0 (P0))) ∧ w'.cell? (x0.add ((Q0)).toNat) = some (.int .u64 (rd l0 (Q0))) ∧ w'.cell? (x0.add ((R0)).toNat) = some (.int .u64 (rd l0 (R0)))) (ds := [31]) (bb_ 32 0) (by kernel_rfl) rfl rfl ⟨((HB.out.cell (World.block_lt_of_cell? w _ b1)).trans b1), ((HB.out.cell (World.block_lt_of_cell? w _ d1)).trans d1), ((HB.out.cell (World.block_lt_of_cell? w _ e1)).trans e1), ((HB.out.cell (World.block_lt_of_cell? w _ f1)).trans f1), ((HB.out.cell (World.block_lt_of_cell? w _ g1)).trans g1)⟩ (fun hHeld => ?_); refine cM af.tab5 af.bits5 (fun HT_ HW_ => ?_)
  generalize wr.drew = q6 at b0 HB GG23 HQ25 hf23_0 p2 y0 B0 C0 D0 E0 hHeld ⊢
  refine pS_ 0 21 (bb_ 32 1) HT_.out ?_
  refine pS_ 1 22 (bb_ 32 3) HT_.out ?_
  refine pS_ 2 23 (bb_ 32 7) HT_.out ?_
  refine pS_ 3 24 (bb_ 32 15) HT_.out ?_
  refine pS_ 4 25 (bb_ 32 31) HT_.out ?_
  refine pS_ 6 27 (bb_ 32 95) HT_.out ?_
  refine pS_ 7 28 (bb_ 32 223) HT_.out ?_
  refine pS_ 8 29 (bb_ 32 479) HT_.out ?_
  refine pS_ 9 30 (bb_ 32 991) HT_.out ?_
  refine pS_ 12 33 (bb_ 32 5087) HT_.out ?_
  refine pS_ 13 34 (bb_ 32 13279) HT_.out ?_
  refine pS_ 14 35 (bb_ 32 29663) HT_.out ?_
  refine pS_ 15 36 (bb_ 32 62431) HT_.out ?_
  refine pS_ 18 39 (bb_ 32 324575) HT_.out ?_
  refine pS_ 19 40 (bb_ 32 848863) HT_.out ?_
  refine pS_ 20 41 (bb_ 32 1897439) HT_.out ?_
  refine pS_ 21 42 (bb_ 32 3994591) HT_.out ?_
  refine pS_ 24 45 (bb_ 32 20771807) HT_.out ?_
  refine pS_ 25 46 (bb_ 32 54326239) HT_.out ?_
  refine pS_ 26 47 (bb_ 32 121435103) HT_.out ?_
  refine pS_ 27 48 (bb_ 32 255652831) HT_.out ?_
  refine tS_ 5 26 (bb_ 32 255652863) (bA HT_.out HW_.out (by kernel_rfl)) hHeld ?_
  refine tS_ 10 31 (bb_ 32 255653887) (bA HT_.out HW_.out (by kernel_rfl)) hHeld ?_
  refine pS_ 11 32 (bb_ 32 255655935) HT_.out ?_
  refine tS_ 16 37 (bb_ 32 255721471) (bA HT_.out HW_.out (by kernel_rfl)) hHeld ?_
  refine pS_ 17 38 (bb_ 32 255852543) HT_.out ?_
  refine tS_ 22 43 (bb_ 32 260046847) (bA HT_.out HW_.out (by kernel_rfl)) hHeld ?_
  refine pS_ 23 44 (bb_ 32 268435455) HT_.out ?_
  refine tS_ 28 49 (bb_ 32 536870911) (bA HT_.out HW_.out (by kernel_rfl)) hHeld ?_
  refine pS_ 29 50 (bb_ 32 1073741823) HT_.out ?_
  refine pS_ 30 51 (bb_ 32 2147483647) HT_.out ?_
  refine gv (i := 31) (N := none) (bb_ 32 4294967295) rfl rfl (cC HT_.out (by kernel_rfl)) (by decide) (fun K hK => ?_)
  refine iB (w1 := ?_) (by rfl) rfl ?_ ?_
  rotate_left
  ·go_simp
   rfl
  refine hK.out _ _ ?_
  clear hK K
  refine eT (dn HT_.out (by kernel_rfl)) ?_
  try go_wp2
  go_roundg k1
  case measure => have := P1.out; omega
  case rel => exact ⟨(P3), (wrap64 (e0 + 1)), f0_, H', ⟨by have := P1.out; omega⟩, ⟨rR_ HQ25.out⟩, ⟨hS_ X3.out⟩⟩
 rw [Aa c7] at H
 have K3 := ua c7
 clear c7
 obtain ⟨Y3, H⟩ := iN_ H
 have c5 := va Y3
 have e5 := ta Y3
 clear Y3
 obtain ⟨Z3, i1⟩ : ∃ y_ : List Int, y_ = (List.replicate 25 0) := ⟨_, rfl⟩
 first | replace H := yb_ i1 H | rw [← i1] at H
 have U1 := aa.mk i1
 clear i1
 have H' := aa.mk H
 clear H
 go_wp2_with (first | ((with_reducible refine aI (N := 52) rfl ?_); refine Kd.R_make (Kd.int .u64) _ 91 rfl (N := 52) rfl 89 _ _ rfl 25 rfl rfl Tryz.underlying89 (.int .u64 0) 8 jp rfl (by decide) (by omega) 0 (ok := fun _ => True) (okp := fun _ => True) rfl (fun _ hk => hk) trivial (by omega) (by omega) (xa _ _) (wa _) ?_; intro K0 s6 D1 hb hg_ hnew_; clear hg_ hnew_; (first | rw [← U1.out] at D1 | (simp only [Int.reduceToNat] at D1; rw [← U1.out] at D1)); have n_ := b_ (Kd.R_elder' (rR_ b0.out) (Kd.R_base D1) hb) <| b_ (Kd.R_lower (Kd.R_new' D1 (Kd.R_lt (rR_ b0.out))) (ab (hB_))) <| c_ (ac (hB_) hb); clear b0 HB; obtain ⟨b0, e3, HB⟩ := n_; clear hb D1))
 go_loopg [10] k1 (fun kq T5 w' => ∃ (j0 : List Int) (p0 : Int), T5 = .int .i64 p0 ∧ aa (af.l1 kq l0 l1 a2 k0 j0 p0 = some r) ∧ aa (kq ≤ k1) ∧ aa (Kd.R (Kd.int .u64) 91 w' w.heap.size (fun k_ => some k_ ≠ (K0 : Value).ownBlock) Y1 k0) ∧ aa (Kd.R (Kd.int .u64) 91 w' w.heap.size (fun k_ => some k_ ≠ (Y1 : Value).ownBlock) K0 j0) ∧ aa (Below w.heap.size w w'))
 case atStart => exact ⟨(Z3), (0), f0_, H', ⟨wa _⟩, ⟨by refine kR_ ?_; exact Kd.R_mono b0.out (fun _ hk => hk.2)⟩, ⟨by refine kR_ ?_; exact Kd.R_mono e3.out (fun _ hk => hk.2)⟩, ⟨hB_⟩⟩
 clear H'
 obtain ⟨j0, p0, rfl, HA, V1, b0, a0, HB⟩ := hrel
 rcases gk with _ | k2
 ·exact absurd HA.out (by simp [af.l1])
 have H := HA.out
 clear HA
 simp only [af.l1] at H
 by_cases N2 : p0 < 5
 ·rw [za N2] at H
  have f3 := ta N2
  clear N2
  obtain ⟨S0, J1⟩ : ∃ j_ : Int, (Int.tmod (wrap64 (p0 + 4)) 5) = j_ := ⟨_, rfl⟩
  first | rw [J1] at H | simp only [J1] at H
  obtain ⟨f5, H⟩ := iD_ H
  obtain ⟨i5, H⟩ := iD_ H
  obtain ⟨V0, K1⟩ : ∃ j_ : Int, (Int.tmod (wrap64 (p0 + 1)) 5) = j_ := ⟨_, rfl⟩
  first | rw [K1] at H | simp only [K1] at H
  obtain ⟨p5, H⟩ := iD_ H
  obtain ⟨q5, H⟩ := iD_ H
  obtain ⟨Q1, U5, H⟩ := bN_ H
  have H' := aa.mk H
  clear H
  try go_wp2
  have n_ := b_ (Kd.R_drew b0.out) <| b_ (Kd.R_drew a0.out) <| c_ (bX HB.out)
  clear b0 a0 HB
  obtain ⟨b0, a0, HB⟩ := n_
  obtain ⟨V5, g3, i3⟩ := Kd.R_slice b0.out
  (first | subst i3 | (injection i3 with f1_ f2_ f3_; have f4_ := f1_.symm; have f5_ := f3_.symm; clear f1_ f2_ f3_; subst f4_; subst f5_))
  have q2 : 0 ≤ ((S0) : Int) := oD_
  have r2 : (S0) < (k0.length : Int) := oD_
  obtain ⟨T0, b4, j1⟩ := Kd.at_int (Kd.R_reads' b0.out).2.2 (S0) q2 r2
  cases b4
  replace q2 := va q2
  replace r2 := va r2
  have t2 : 0 ≤ ((V0) : Int) := oD_
  have u2 : (V0) < (k0.length : Int) := oD_
  obtain ⟨m3, e4, m1⟩ := Kd.at_int (Kd.R_reads' b0.out).2.2 (V0) t2 u2
  obtain rfl : T0 = m3 := (by injection e4)
  replace t2 := va t2
  replace u2 := va u2
  refine dY (n := 15) (S := fun w' => w'.cell? (T0.add ((S0)).toNat) = some (.int .u64 (rd k0 (S0))) ∧ w'.cell? (T0.add ((V0)).toNat) = some (.int .u64 (rd k0 (V0)))) (ds := []) (bb_ 15 0) (by kernel_rfl) rfl rfl ⟨j1, m1⟩ (fun hHeld => ?_); refine cM af.tab10 af.bits10 (fun HT_ HW_ => ?_)
  generalize wr.drew = t6 at b0 a0 HB j1 m1 hHeld ⊢
  refine pS_ 0 57 (bb_ 15 1) HT_.out ?_
  refine pS_ 1 58 (bb_ 15 3) HT_.out ?_
  refine pS_ 2 59 (bb_ 15 7) HT_.out ?_
  refine pS_ 3 60 (bb_ 15 15) HT_.out ?_
  refine pS_ 4 61 (bb_ 15 31) HT_.out ?_
  refine pS_ 6 63 (bb_ 15 95) HT_.out ?_
  refine pS_ 7 64 (bb_ 15 223) HT_.out ?_
  refine pS_ 8 65 (bb_ 15 479) HT_.out ?_
  refine pS_ 9 66 (bb_ 15 991) HT_.out ?_
  refine pS_ 10 67 (bb_ 15 2015) HT_.out ?_
  refine tS_ 5 62 (bb_ 15 2047) (bA HT_.out HW_.out (by kernel_rfl)) hHeld ?_
  refine tS_ 11 68 (bb_ 15 4095) (bA HT_.out HW_.out (by kernel_rfl)) hHeld ?_
  refine fC (i := 12) (N := some 69) (bb_ 15 8191) rfl rfl (cC HT_.out (by kernel_rfl)) (by decide) (fun K hK => ?_)
  refine fj Tryz.func107 (by kernel_rfl) rfl #[.int .u64 (rd k0 (V0)), .int .i64 1] (by rfl) rfl rfl (by (try simp only [List.map_toArray, List.map_cons, List.map_nil]); first | done | (simp only [K1]; rfl) | rfl | (simp only [List.length_drop, List.length_take]; rfl)) ?_
  with_reducible refine (bm.calls k2 (rd k0 (V0)) 1 Q1 _ U5.out).mono ?_
  rintro e w' ⟨rfl, ⟨nd, rfl⟩⟩
  refine ⟨_, rfl, ?_⟩
  refine hK.out _ _ ⟨hHeld.1, hHeld.2⟩ (fun hHeld => ?_)
  clear hK K
  refine dV (a' := ?_) ?_ ?_
  rotate_left
  ·show Act.put _ (some 69) _ = _
   simp only [Act.put, List.setIfInBounds_toArray, List.set_cons_zero, List.set_cons_succ, bB, cJ]
   rfl
  refine pS_ 13 70 (bb_ 15 16383) HT_.out ?_
  refine pS_ 14 11 (bb_ 15 32767) HT_.out ?_
  refine eT (dn HT_.out (by kernel_rfl)) ?_
  try go_wp2
  go_loopg [12] k2 (fun kq W5 w' => ∃ (E1 : List Int) (r0 : Int), W5 = .int .i64 r0 ∧ aa (af.l2 kq l0 l1 a2 k0 E1 p0 (Go.bits .xor .u64 (rd k0 (S0)) Q1) r0 = some r) ∧ aa (kq ≤ k2) ∧ aa (Kd.R (Kd.int .u64) 91 w' w.heap.size (fun k_ => some k_ ≠ (K0 : Value).ownBlock) (.slice (some T0) k0.length g3) k0) ∧ aa (Kd.R (Kd.int .u64) 91 w' w.heap.size (fun k_ => some k_ ≠ ((.slice (some T0) k0.length g3) : Value).ownBlock) K0 E1) ∧ aa (Below w.heap.size w w'))
  case atStart => exact ⟨(j0), (0), f0_, H', ⟨wa _⟩, ⟨rR_ b0.out⟩, ⟨rR_ a0.out⟩, ⟨hB_⟩⟩
  clear H'
  obtain ⟨E1, r0, rfl, HA, R1, b0, a0, HB⟩ := hrel
  rcases gk with _ | k3
  ·exact absurd HA.out (by simp [af.l2])
  have H := HA.out
  clear HA
  simp only [af.l2] at H
  by_cases O2 : r0 < 5
  rotate_left
  ·rw [Aa O2] at H
   have n3 := ua O2
   clear O2
   have H' := aa.mk H
   clear H
   go_wp2
   go_roundg k3
   case measure => have := P1.out; have := V1.out; have := R1.out; omega
   case rel => exact ⟨(E1), (wrap64 (p0 + 1)), f0_, H', ⟨by have := P1.out; have := V1.out; have := R1.out; omega⟩, ⟨rR_ b0.out⟩, ⟨rR_ a0.out⟩, ⟨hB_⟩⟩
  rw [za O2] at H
  have n3 := ta O2
  clear O2
  obtain ⟨u0, n1⟩ : ∃ j_ : Int, (wrap64 (p0 + (wrap64 (5 * r0)))) = j_ := ⟨_, rfl⟩
  first | rw [n1] at H | simp only [n1] at H
  have f4 : (IntKind.i64.wrap (p0 + (wrap64 (5 * r0)))) = u0 := (bB _).trans n1
  obtain ⟨s5, H⟩ := iD_ H
  obtain ⟨t5, H⟩ := iD_ H
  obtain ⟨u5, H⟩ := iD_ H
  obtain ⟨v2, v5, H⟩ := bN_ H
  obtain ⟨W0, p1⟩ : ∃ j_ : Int, (wrap64 (r0 + (wrap64 (5 * (Int.tmod (wrap64 ((wrap64 (2 * p0)) + (wrap64 (3 * r0)))) 5))))) = j_ := ⟨_, rfl⟩
  first | rw [p1] at H | simp only [p1] at H
  (try rw [p1] at v5)
  have g4 : (IntKind.i64.wrap (r0 + (wrap64 (5 * (Int.tmod (wrap64 ((wrap64 (2 * p0)) + (wrap64 (3 * r0)))) 5))))) = W0 := (bB _).trans p1
  obtain ⟨y5, H⟩ := iD_ H
  obtain ⟨z5, H⟩ := iD_ H
  obtain ⟨i4, q1⟩ : ∃ y_ : List Int, y_ = (E1.set ((W0) : Int).toNat v2) := ⟨_, rfl⟩
  first | replace H := yb_ q1 H | rw [← q1] at H
  have p3 := aa.mk q1
  clear q1
  have H' := aa.mk H
  clear H
  try go_wp2
  have n_ := b_ (Kd.R_drew b0.out) <| b_ (Kd.R_drew a0.out) <| c_ (bX HB.out)
  clear b0 a0 HB
  obtain ⟨b0, a0, HB⟩ := n_
  have y2 : 0 ≤ ((u0) : Int) := oD_
  have z2 : (u0) < (l0.length : Int) := oD_
  obtain ⟨q3, n4, F0⟩ := Kd.at_int M2.out (u0) y2 z2
  have H0 := F0
  cases n4
  replace F0 := (HB.out.cell (World.block_lt_of_cell? w _ F0)).trans F0
  replace y2 := va y2
  replace z2 := va z2
  have A2 : 0 ≤ ((u0) : Int) := oD_
  have B2 : (u0) < (l1.length : Int) := oD_
  obtain ⟨r3, q4, G0⟩ := Kd.at_int N5.out (u0) A2 B2
  have I0 := G0
  cases q4
  replace G0 := (HB.out.cell (World.block_lt_of_cell? w _ G0)).trans G0
  replace A2 := va A2
  replace B2 := va B2
  refine dY (n := 29) (S := fun w' => w'.cell? (q3.add ((u0)).toNat) = some (.int .u64 (rd l0 (u0))) ∧ w'.cell? (r3.add ((u0)).toNat) = some (.int .i64 (rd l1 (u0)))) (ds := [28]) (bb_ 29 0) (by kernel_rfl) rfl rfl ⟨((HB.out.cell (World.block_lt_of_cell? w _ H0)).trans H0), ((HB.out.cell (World.block_lt_of_cell? w _ I0)).trans I0)⟩ (fun hHeld => ?_); refine cM af.tab14 af.bits14 (fun HT_ HW_ => ?_)
  generalize wr.drew = u6 at b0 a0 HB F0 G0 hHeld ⊢
  refine pS_ 0 75 (bb_ 29 1) HT_.out ?_
  refine pS_ 1 76 (bb_ 29 3) HT_.out ?_
  refine pS_ 2 77 (bb_ 29 7) HT_.out ?_
  refine pS_ 3 78 (bb_ 29 15) HT_.out ?_
  refine pS_ 4 79 (bb_ 29 31) HT_.out ?_
  refine pS_ 5 80 (bb_ 29 63) HT_.out ?_
  refine pS_ 6 81 (bb_ 29 127) HT_.out ?_
  refine pS_ 7 82 (bb_ 29 255) HT_.out ?_
  refine pS_ 8 83 (bb_ 29 511) HT_.out ?_
  refine pS_ 9 84 (bb_ 29 1023) HT_.out ?_
  refine pS_ 10 85 (bb_ 29 2047) HT_.out ?_
  refine pS_ 11 86 (bb_ 29 4095) HT_.out ?_
  refine pS_ 12 87 (bb_ 29 8191) HT_.out ?_
  refine pS_ 13 88 (bb_ 29 16383) HT_.out ?_
  refine pS_ 14 89 (bb_ 29 32767) HT_.out ?_
  refine pS_ 15 90 (bb_ 29 65535) HT_.out ?_
  refine pS_ 17 92 (bb_ 29 196607) HT_.out ?_
  refine pS_ 19 94 (bb_ 29 720895) HT_.out ?_
  refine pS_ 20 95 (bb_ 29 1769471) HT_.out ?_
  refine pS_ 21 96 (bb_ 29 3866623) HT_.out ?_
  refine pS_ 22 97 (bb_ 29 8060927) HT_.out ?_
  refine pS_ 23 98 (bb_ 29 16449535) HT_.out ?_
  refine pS_ 24 99 (bb_ 29 33226751) HT_.out ?_
  refine tS_ 16 91 (bb_ 29 33292287) (bA HT_.out HW_.out (by kernel_rfl)) hHeld ?_
  refine pS_ 18 93 (bb_ 29 33554431) HT_.out ?_
  refine tS_ 25 100 (bb_ 29 67108863) (bA HT_.out HW_.out (by kernel_rfl)) hHeld ?_
  refine fC (i := 26) (N := some 101) (bb_ 29 134217727) rfl rfl (cC HT_.out (by kernel_rfl)) (by decide) (fun K hK => ?_)
  refine fj Tryz.func107 (by kernel_rfl) rfl #[.int .u64 (Go.bits .xor .u64 (rd l0 (u0)) (Go.bits .xor .u64 (rd k0 (S0)) Q1)), .int .i64 (rd l1 (u0))] (by rfl) rfl rfl (by (try simp only [List.map_toArray, List.map_cons, List.map_nil]); first | done | (simp only [J1, n1]; rfl) | rfl | (simp only [List.length_drop, List.length_take]; rfl)) ?_
  with_reducible refine (bm.calls k3 (Go.bits .xor .u64 (rd l0 (u0)) (Go.bits .xor .u64 (rd k0 (S0)) Q1)) (rd l1 (u0)) v2 _ v5.out).mono ?_
  rintro e w' ⟨rfl, ⟨nd, rfl⟩⟩
  refine ⟨_, rfl, ?_⟩
  have t4 : 0 ≤ ((W0) : Int) := oD_
  have u4 : ((W0) : Int) < ((E1.length : Int) : Int) := oD_
  obtain ⟨go48, X5, t3, u3, gl48, cl48, HG48⟩ := Kd.R_form a0.out (by omega)
  (first | cases t3 | (injection t3 with ea_ en_ ec_; (first | subst ea_ | (injection ea_ with ea_; subst ea_)); subst ec_; clear en_))
  have v4 := aa.mk u3
  have GG48 := aa.mk HG48
  clear u3 gl48 HG48
  obtain ⟨w4, hf48_0⟩ := Kd.R_celln 0 a0.out ((W0) : Int) t4 u4
  replace t4 := va t4
  replace u4 := va u4
  have HP50 := Kd.R_putn a0.out ((W0) : Int) v2
  rw [← p3.out] at HP50
  have HQ50 := aa.mk HP50
  clear HP50
  refine hK.out _ _ ⟨((HB.out.cell (World.block_lt_of_cell? w _ H0)).trans H0), ((HB.out.cell (World.block_lt_of_cell? w _ I0)).trans I0)⟩ (fun hHeld => ?_)
  clear hK K
  refine dV (a' := ?_) ?_ ?_
  rotate_left
  ·show Act.put _ (some 101) _ = _
   simp only [Act.put, List.setIfInBounds_toArray, List.set_cons_zero, List.set_cons_succ, bB, cJ]
   rfl
  refine pS_ 27 102 (bb_ 29 268435455) HT_.out ?_
  refine gv (i := 28) (N := none) (bb_ 29 536870911) rfl rfl (cC HT_.out (by kernel_rfl)) (by decide) (fun K hK => ?_)
  refine iB (w1 := ?_) (by rfl) rfl ?_ ?_
  rotate_left
  ·go_simp
   rfl
  refine hK.out _ _ ?_
  clear hK K
  refine eT (dn HT_.out (by kernel_rfl)) ?_
  try go_wp2
  go_roundg k3
  case measure => have := P1.out; have := V1.out; have := R1.out; omega
  case rel => exact ⟨(i4), (wrap64 (r0 + 1)), f0_, H', ⟨by have := P1.out; have := V1.out; have := R1.out; omega⟩, ⟨by refine kR_ ?_; exact Kd.R_mono (Kd.R_far (p := ⟨go48, ((W0) : Int).toNat, none⟩) (Kd.R_mono b0.out (fun k_ hk => (⟨hk, fun e_ => hk (by rw [e_]; rfl)⟩ : _ ∧ k_ ≠ go48))) (fun _ hk => hk.2) _) (fun _ hk => hk.1)⟩, ⟨rR_ HQ50.out⟩, ⟨hS_ v4.out⟩⟩
 rw [Aa N2] at H
 have f3 := ua N2
 clear N2
 obtain ⟨y4, H⟩ := iN_ H
 have A5 := va y4
 have B5 := ta y4
 clear y4
 obtain ⟨z4, r1⟩ : ∃ y_ : List Int, y_ = (List.replicate 25 0) := ⟨_, rfl⟩
 first | replace H := yb_ r1 H | rw [← r1] at H
 have X1 := aa.mk r1
 clear r1
 have H' := aa.mk H
 clear H
 go_wp2_with (first | ((with_reducible refine aI (N := 103) rfl ?_); refine Kd.R_make (Kd.int .u64) _ 91 rfl (N := 103) rfl 89 _ _ rfl 25 rfl rfl Tryz.underlying89 (.int .u64 0) 8 jp rfl (by decide) (by omega) 0 (ok := fun _ => True) (okp := fun _ => True) rfl (fun _ hk => hk) trivial (by omega) (by omega) (xa _ _) (wa _) ?_; intro S1 v6 X0 hb hg_ hnew_; clear hg_ hnew_; (first | rw [← X1.out] at X0 | (simp only [Int.reduceToNat] at X0; rw [← X1.out] at X0)); have n_ := b_ (Kd.R_elder' (rR_ b0.out) (Kd.R_base X0) hb) <| b_ (Kd.R_elder' (rR_ a0.out) (Kd.R_base X0) hb) <| b_ (Kd.R_lower (Kd.R_new' (Kd.R_new' X0 (Kd.R_lt (rR_ b0.out))) (Kd.R_lt (rR_ a0.out))) (ab (hB_))) <| c_ (ac (hB_) hb); clear b0 a0 HB; obtain ⟨b0, a0, v3, HB⟩ := n_; clear hb X0))
 go_loopg [14] k2 (fun kq Y5 w' => ∃ (f0 : List Int) (q0 : Int), Y5 = .int .i64 q0 ∧ aa (af.l3 kq a2 j0 f0 q0 = some r) ∧ aa (kq ≤ k2) ∧ aa (Kd.R (Kd.int .u64) 91 w' w.heap.size (fun k_ => some k_ ≠ (S1 : Value).ownBlock) K0 j0) ∧ aa (Kd.R (Kd.int .u64) 91 w' w.heap.size (fun k_ => some k_ ≠ (K0 : Value).ownBlock) S1 f0) ∧ aa (Below w.heap.size w w'))
 case atStart => exact ⟨(z4), (0), f0_, H', ⟨wa _⟩, ⟨by refine kR_ ?_; exact Kd.R_mono a0.out (fun _ hk => hk.2)⟩, ⟨by refine kR_ ?_; exact Kd.R_mono v3.out (fun _ hk => hk.2)⟩, ⟨hB_⟩⟩
 clear H'
 obtain ⟨f0, q0, rfl, HA, R1, a0, d0, HB⟩ := hrel
 rcases gk with _ | k3
 ·exact absurd HA.out (by simp [af.l3])
 have H := HA.out
 clear HA
 simp only [af.l3] at H
 by_cases P2 : q0 < 5
 rotate_left
 ·rw [Aa P2] at H
  have w3 := ua P2
  clear P2
  obtain ⟨C5, H⟩ := iN_ H
  have D5 := ta C5
  have E5 : decide (0 < f0.length) = true := ta (by omega)
  clear C5
  obtain ⟨A4, t1⟩ : ∃ y_ : List Int, y_ = (f0.set (0 : Int).toNat (Go.bits .xor .u64 (rd f0 0) a2)) := ⟨_, rfl⟩
  first | replace H := yb_ t1 H | rw [← t1] at H
  have y3 := aa.mk t1
  clear t1
  obtain rfl := sI H
  obtain ⟨Z5, C2, B4⟩ := Kd.R_slice d0.out
  subst B4
  have D2 : 0 ≤ (0 : Int) := (by omega)
  have E2 : 0 < (f0.length : Int) := oD_
  obtain ⟨F5, C4, L0⟩ := Kd.at_int (Kd.R_reads' d0.out).2.2 0 D2 E2
  cases C4
  have qi288 : (0 < f0.length) = True := va (by omega)
  (try rw [show ((0 : Int)).toNat = 0 from rfl] at L0)
  (try rw [Addr.add_zero'] at L0)
  replace D2 := va D2
  replace E2 := va E2
  have D4 : 0 ≤ (0 : Int) := (by omega)
  have E4 : (0 : Int) < ((f0.length : Int) : Int) := oD_
  have qi71 : (0 < f0.length) = True := va (by omega)
  obtain ⟨go71, b6, z3, A3, gl71, cl71, HG71⟩ := Kd.R_form d0.out (by omega)
  (first | cases z3 | (injection z3 with ea_ en_ ec_; (first | subst ea_ | (injection ea_ with ea_; subst ea_)); subst ec_; clear en_))
  have F4 := aa.mk A3
  have GG71 := aa.mk HG71
  clear A3 gl71 HG71
  (first | simp only [bU] at L0 | skip)
  obtain ⟨L1, hf71_0⟩ := Kd.R_celln 0 d0.out (0 : Int) D4 E4
  (try rw [show ((0 : Int)).toNat = 0 from rfl] at L1)
  (try simp only [Nat.reduceMul, Nat.zero_mul, Nat.zero_add, Nat.reduceAdd] at L1)
  (try rw [show ((0 : Int)).toNat = 0 from rfl] at hf71_0)
  (try simp only [Nat.reduceMul, Nat.zero_mul, Nat.zero_add, Nat.reduceAdd] at hf71_0)
  replace D4 := va D4
  replace E4 := va E4
  have HP73 := Kd.R_putg d0.out (0 : Int) (Go.bits .xor .u64 (rd f0 0) a2)
  go_wp2_with (first | ((with_reducible refine cm (t := 91) (p := 152) rfl ?_); refine b9 (t := 91) (p := 152) (v := ?vo_w74) (w1 := (wr.setCell ⟨go71, (0 : Int).toNat, none⟩ (.int .u64 (Go.bits .xor .u64 (rd f0 0) a2)))) ?hg ?ho ?hn ?hr ?_; (case ho => rfl); (case hg => rfl); (case hn => rfl); (case hr => first | (go_simp; done) | (go_simp; rfl)); intro G4 hw; have hg : wr.grownBy G4 (some go71) := (by rw [hw]; exact HP73.2); have hp_ : Kd.R (Kd.int .u64) 91 G4 w.heap.size (fun k_ => some k_ ≠ (K0 : Value).ownBlock) (.slice (some ⟨go71, 0, none⟩) f0.length C2) A4 := (by rw [hw, y3.out]; exact HP73.1); clear HP73; have n_ := b_ (Kd.R_after (v := (.slice (some ⟨go71, 0, none⟩) f0.length C2)) (v1 := (.slice (some ⟨go71, 0, none⟩) f0.length C2)) (ok := (fun _ => True)) (by refine kR_ ?_; exact Kd.R_mono a0.out (fun _ hk => ⟨trivial, hk⟩)) hg (.inl rfl)) <| b_ (hp_) <| c_ (by rw [hw]; exact co (HB.out) F4.out : Below w.heap.size w G4); clear a0 d0 HB; obtain ⟨a0, d0, HB⟩ := n_; clear hg hw hp_))
  go_ret
  exact ⟨_, f1_, by refine kR_ ?_; exact Kd.R_mono d0.out (fun _ hk => trivial), hB_⟩
 rw [za P2] at H
 have w3 := ta P2
 clear P2
 have H' := aa.mk H
 clear H
 go_wp2
 go_loopg [15] k3 (fun kq c6 w' => ∃ (J0 : List Int) (t0 : Int), c6 = .int .i64 t0 ∧ aa (af.l4 kq a2 j0 J0 q0 t0 = some r) ∧ aa (kq ≤ k3) ∧ aa (Kd.R (Kd.int .u64) 91 w' w.heap.size (fun k_ => some k_ ≠ (S1 : Value).ownBlock) K0 j0) ∧ aa (Kd.R (Kd.int .u64) 91 w' w.heap.size (fun k_ => some k_ ≠ (K0 : Value).ownBlock) S1 J0) ∧ aa (Below w.heap.size w w'))
 case atStart => exact ⟨(f0), (0), f0_, H', ⟨wa _⟩, ⟨rR_ a0.out⟩, ⟨rR_ d0.out⟩, ⟨hB_⟩⟩
 clear H'
 obtain ⟨J0, t0, rfl, HA, I3, a0, d0, HB⟩ := hrel
 rcases gk with _ | k4
 ·exact absurd HA.out (by simp [af.l4])
 have H := HA.out
 clear HA
 simp only [af.l4] at H
 by_cases Q2 : t0 < 5
 rotate_left
 ·rw [Aa Q2] at H
  have B3 := ua Q2
  clear Q2
  have H' := aa.mk H
  clear H
  go_wp2
  go_roundg k4
  case measure => have := P1.out; have := V1.out; have := R1.out; have := I3.out; omega
  case rel => exact ⟨(J0), (wrap64 (q0 + 1)), f0_, H', ⟨by have := P1.out; have := V1.out; have := R1.out; have := I3.out; omega⟩, ⟨rR_ a0.out⟩, ⟨rR_ d0.out⟩, ⟨hB_⟩⟩
 rw [za Q2] at H
 have B3 := ta Q2
 clear Q2
 obtain ⟨v0, M1⟩ : ∃ j_ : Int, (wrap64 (q0 + (wrap64 (5 * t0)))) = j_ := ⟨_, rfl⟩
 first | rw [M1] at H | simp only [M1] at H
 have H4 : (IntKind.i64.wrap (q0 + (wrap64 (5 * t0)))) = v0 := (bB _).trans M1
 obtain ⟨G5, H⟩ := iD_ H
 obtain ⟨H5, H⟩ := iD_ H
 obtain ⟨M0, N1⟩ : ∃ j_ : Int, (wrap64 ((Int.tmod (wrap64 (q0 + 1)) 5) + (wrap64 (5 * t0)))) = j_ := ⟨_, rfl⟩
 first | rw [N1] at H | simp only [N1] at H
 have I4 : (IntKind.i64.wrap ((Int.tmod (wrap64 (q0 + 1)) 5) + (wrap64 (5 * t0)))) = M0 := (bB _).trans N1
 obtain ⟨I5, H⟩ := iD_ H
 obtain ⟨J5, H⟩ := iD_ H
 obtain ⟨N0, O1⟩ : ∃ j_ : Int, (wrap64 ((Int.tmod (wrap64 (q0 + 2)) 5) + (wrap64 (5 * t0)))) = j_ := ⟨_, rfl⟩
 first | rw [O1] at H | simp only [O1] at H
 have J4 : (IntKind.i64.wrap ((Int.tmod (wrap64 (q0 + 2)) 5) + (wrap64 (5 * t0)))) = N0 := (bB _).trans O1
 obtain ⟨K5, H⟩ := iD_ H
 obtain ⟨L5, H⟩ := iD_ H
 obtain ⟨M5, H⟩ := iD_ H
 obtain ⟨K4, y1⟩ : ∃ y_ : List Int, y_ = (J0.set ((v0) : Int).toNat (Go.bits .xor .u64 (rd j0 (v0)) (Go.bits .and .u64 (IntKind.u64.wrap (18446744073709551615 - (rd j0 (M0)))) (rd j0 (N0))))) := ⟨_, rfl⟩
 first | replace H := yb_ y1 H | rw [← y1] at H
 have C3 := aa.mk y1
 clear y1
 have H' := aa.mk H
 clear H
 try go_wp2
 have n_ := b_ (Kd.R_drew a0.out) <| b_ (Kd.R_drew d0.out) <| c_ (bX HB.out)
 clear a0 d0 HB
 obtain ⟨a0, d0, HB⟩ := n_
 obtain ⟨e6, f6, D3⟩ := Kd.R_slice a0.out
 (first | subst D3 | (injection D3 with f1_ f2_ f3_; have f4_ := f1_.symm; have f5_ := f3_.symm; clear f1_ f2_ f3_; subst f4_; subst f5_))
 have F2 : 0 ≤ ((v0) : Int) := oD_
 have G2 : (v0) < (j0.length : Int) := oD_
 obtain ⟨U0, L4, z1⟩ := Kd.at_int (Kd.R_reads' a0.out).2.2 (v0) F2 G2
 cases L4
 replace F2 := va F2
 replace G2 := va G2
 have H2 : 0 ≤ ((M0) : Int) := oD_
 have I2 : (M0) < (j0.length : Int) := oD_
 obtain ⟨E3, M4, B1⟩ := Kd.at_int (Kd.R_reads' a0.out).2.2 (M0) H2 I2
 obtain rfl : U0 = E3 := (by injection M4)
 replace H2 := va H2
 replace I2 := va I2
 have J2 : 0 ≤ ((N0) : Int) := oD_
 have K2 : (N0) < (j0.length : Int) := oD_
 obtain ⟨F3, N4, C1⟩ := Kd.at_int (Kd.R_reads' a0.out).2.2 (N0) J2 K2
 obtain rfl : U0 = F3 := (by injection N4)
 replace J2 := va J2
 replace K2 := va K2
 have O4 : 0 ≤ ((v0) : Int) := oD_
 have P4 : ((v0) : Int) < ((J0.length : Int) : Int) := oD_
 obtain ⟨go66, g6, G3, H3, gl66, cl66, HG66⟩ := Kd.R_form d0.out (by omega)
 (first | cases G3 | (injection G3 with ea_ en_ ec_; (first | subst ea_ | (injection ea_ with ea_; subst ea_)); subst ec_; clear en_))
 have Q4 := aa.mk H3
 have GG66 := aa.mk HG66
 clear H3 gl66 HG66
 obtain ⟨L2, hf66_0⟩ := Kd.R_celln 0 d0.out ((v0) : Int) O4 P4
 replace O4 := va O4
 replace P4 := va P4
 have HP69 := Kd.R_putn d0.out ((v0) : Int) (Go.bits .xor .u64 (rd j0 (v0)) (Go.bits .and .u64 (IntKind.u64.wrap (18446744073709551615 - (rd j0 (M0)))) (rd j0 (N0))))
 rw [← C3.out] at HP69
 have HQ69 := aa.mk HP69
 clear HP69
 refine dY (n := 35) (S := fun w' => w'.cell? (U0.add ((v0)).toNat) = some (.int .u64 (rd j0 (v0))) ∧ w'.cell? (U0.add ((M0)).toNat) = some (.int .u64 (rd j0 (M0))) ∧ w'.cell? (U0.add ((N0)).toNat) = some (.int .u64 (rd j0 (N0)))) (ds := [34]) (bb_ 35 0) (by kernel_rfl) rfl rfl ⟨z1, B1, C1⟩ (fun hHeld => ?_); refine cM af.tab22 af.bits22 (fun HT_ HW_ => ?_)
 generalize wr.drew = w6 at a0 d0 HB GG66 HQ69 hf66_0 z1 B1 C1 L2 hHeld ⊢
 refine pS_ 0 112 (bb_ 35 1) HT_.out ?_
 refine pS_ 1 113 (bb_ 35 3) HT_.out ?_
 refine pS_ 2 114 (bb_ 35 7) HT_.out ?_
 refine pS_ 3 115 (bb_ 35 15) HT_.out ?_
 refine pS_ 4 116 (bb_ 35 31) HT_.out ?_
 refine pS_ 5 117 (bb_ 35 63) HT_.out ?_
 refine pS_ 6 118 (bb_ 35 127) HT_.out ?_
 refine pS_ 7 119 (bb_ 35 255) HT_.out ?_
 refine pS_ 8 120 (bb_ 35 511) HT_.out ?_
 refine pS_ 9 121 (bb_ 35 1023) HT_.out ?_
 refine pS_ 10 122 (bb_ 35 2047) HT_.out ?_
 refine pS_ 12 124 (bb_ 35 6143) HT_.out ?_
 refine pS_ 13 125 (bb_ 35 14335) HT_.out ?_
 refine pS_ 14 126 (bb_ 35 30719) HT_.out ?_
 refine pS_ 15 127 (bb_ 35 63487) HT_.out ?_
 refine pS_ 16 128 (bb_ 35 129023) HT_.out ?_
 refine pS_ 17 129 (bb_ 35 260095) HT_.out ?_
 refine pS_ 18 130 (bb_ 35 522239) HT_.out ?_
 refine pS_ 19 131 (bb_ 35 1046527) HT_.out ?_
 refine pS_ 22 134 (bb_ 35 5240831) HT_.out ?_
 refine pS_ 23 135 (bb_ 35 13629439) HT_.out ?_
 refine pS_ 24 136 (bb_ 35 30406655) HT_.out ?_
 refine pS_ 25 137 (bb_ 35 63961087) HT_.out ?_
 refine pS_ 26 138 (bb_ 35 131069951) HT_.out ?_
 refine pS_ 27 139 (bb_ 35 265287679) HT_.out ?_
 refine pS_ 28 140 (bb_ 35 533723135) HT_.out ?_
 refine pS_ 29 141 (bb_ 35 1070594047) HT_.out ?_
 refine tS_ 11 123 (bb_ 35 1070596095) (bA HT_.out HW_.out (by kernel_rfl)) hHeld ?_
 refine tS_ 20 132 (bb_ 35 1071644671) (bA HT_.out HW_.out (by kernel_rfl)) hHeld ?_
 refine pS_ 21 133 (bb_ 35 1073741823) HT_.out ?_
 refine tS_ 30 142 (bb_ 35 2147483647) (bA HT_.out HW_.out (by kernel_rfl)) hHeld ?_
 refine pS_ 31 143 (bb_ 35 4294967295) HT_.out ?_
 refine pS_ 32 144 (bb_ 35 8589934591) HT_.out ?_
 refine pS_ 33 145 (bb_ 35 17179869183) HT_.out ?_
 refine gv (i := 34) (N := none) (bb_ 35 34359738367) rfl rfl (cC HT_.out (by kernel_rfl)) (by decide) (fun K hK => ?_)
 refine iB (w1 := ?_) (by rfl) rfl ?_ ?_
 rotate_left
 ·go_simp
  rfl
 refine hK.out _ _ ?_
 clear hK K
 refine eT (dn HT_.out (by kernel_rfl)) ?_
 try go_wp2
 go_roundg k4
 case measure => have := P1.out; have := V1.out; have := R1.out; have := I3.out; omega
 case rel => exact ⟨(K4), (wrap64 (t0 + 1)), f0_, H', ⟨by have := P1.out; have := V1.out; have := R1.out; have := I3.out; omega⟩, ⟨by refine kR_ ?_; exact Kd.R_mono (Kd.R_far (p := ⟨go66, ((v0) : Int).toNat, none⟩) (Kd.R_mono a0.out (fun k_ hk => (⟨hk, fun e_ => hk (by rw [e_]; rfl)⟩ : _ ∧ k_ ≠ go66))) (fun _ hk => hk.2) (.int .u64 (Go.bits .xor .u64 (rd j0 (v0)) (Go.bits .and .u64 (IntKind.u64.wrap (18446744073709551615 - (rd j0 (M0)))) (rd j0 (N0)))))) (fun _ hk => hk.1)⟩, ⟨rR_ HQ69.out⟩, ⟨hS_ Q4.out⟩⟩

/-! ### aN: function 95 -/
def aN.l0 : Nat → List Int → List Int → List Int → Int → Option (List Int)
 | 0, _, _, _, _ => none
 | k + 1, x0, x3, x4, x5 => if x5 < 24 then (if 0 ≤ x5 then (if x5 < (x4.length : Int) then ((af.f k x0 x3 (rd x4 x5)).bind fun t301 => (aN.l0 k t301 x3 x4 (wrap64 (x5 + 1)))) else (none)) else (none)) else (some x0)
def aN.f (k : Nat) (l0 : List Int) : Option (List Int) := (bz.f k).bind fun t294 => ((aM.f k).bind fun t297 => (aN.l0 k l0 t294 t297 0))
theorem aN.mono_l : ∀ k, (∀ y0 y1 y2 y3, LeO (aN.l0 k y0 y1 y2 y3) (aN.l0 (k + 1) y0 y1 y2 y3))
 | 0 => fun _ _ _ _ r h => by simp [aN.l0] at h
 | k + 1 => by
  have ih0 := aN.mono_l k
  intros; unfold aN.l0; exact o4_ ih0 af.mono aM.mono bz.mono
theorem aN.mono : ∀ a0 k, LeO (aN.f k a0) (aN.f (k + 1) a0) := by
 intro a0 k
 have ih0 := aN.mono_l k
 unfold aN.f
 exact o4_ ih0 af.mono aM.mono bz.mono
theorem aN.calls (k : Nat) (P0_ : Nat → Prop) (A0 : Option Addr) (c0 : Nat) (l0 : List Int) (r : List Int) (w : World) (hs0 : Kd.V (Kd.int .u64) 91 w w.heap.size (fun k_ => P0_ k_) (.slice A0 l0.length c0) l0) (h : aN.f k l0 = some r) :
  Calls Tryz.prog 95 #[.slice A0 l0.length c0] w fun e w' => ∃ O0 : Value, e = .returned (O0) ∧ Kd.V (Kd.int .u64) 91 w' w.heap.size (fun k_ => (P0_ k_ ∨ w.heap.size ≤ k_)) O0 r ∧ Below w.heap.size w w' := by
 have r0 := aa.mk (show Kd.V (Kd.int .u64) 91 w w.heap.size (fun k_ => (P0_ k_ ∨ w.heap.size ≤ k_)) (.slice A0 l0.length c0) l0 from Kd.V_mono hs0 (fun k_ hk => .inl hk))
 have HB := aa.mk (xa w.heap.size w)
 delta aN.f at h
 have H := h
 clear h
 obtain ⟨p0, A2, H⟩ := bN_ H
 obtain ⟨j0, A3, H⟩ := bN_ H
 have H' := aa.mk H
 clear H
 go_enter Tryz.func95, Tryz.ntmps95
 go_wp2_with (first | ((with_reducible refine ae (f := 100) rfl ?_); refine aq (some 6) rfl rfl Tryz.func100 (by kernel_rfl) rfl #[] rfl aM_ ?_; (with_reducible refine (bz.calls k  p0 _ A2.out).mono ?_); rintro e w4 ⟨x0, rfl, k0, hb⟩; refine ⟨_, rfl, ?_⟩; have n_ := b_ (Kd.V_elder' (rV_ r0.out) (Kd.R_base k0) hb) <| b_ (Kd.R_lower (Kd.R_newM (M := fun k_ => (w.heap.size ≤ k_)) k0 (ab (hB_)) (fun k_ h_ => h_)) (ab (hB_))) <| c_ (ac (hB_) hb); clear r0 HB; obtain ⟨r0, f0, HB⟩ := n_; (try clear k0)) | ((with_reducible refine ae (f := 101) rfl ?_); refine aq (some 7) rfl rfl Tryz.func101 (by kernel_rfl) rfl #[] rfl aM_ ?_; (with_reducible refine (aM.calls k  j0 _ A3.out).mono ?_); rintro e w5 ⟨y0, rfl, k0, hb⟩; refine ⟨_, rfl, ?_⟩; have n_ := b_ (Kd.V_elder' (rV_ r0.out) (Kd.R_base k0) hb) <| b_ (Kd.R_below (rR_ f0.out) hb) <| b_ (Kd.R_lower (Kd.R_newM (M := fun k_ => (w.heap.size ≤ k_)) k0 (ab (hB_)) (fun k_ h_ => h_)) (ab (hB_))) <| c_ (ac (hB_) hb); clear r0 f0 HB; obtain ⟨r0, f0, B0, HB⟩ := n_; (try clear k0)))
 go_loopg [0, 5] k (fun kq v0 v5 w' => ∃ (q0 : List Int) (a0 : Int), v5 = .int .i64 a0 ∧ aa (aN.l0 kq q0 p0 j0 a0 = some r) ∧ aa (kq ≤ k) ∧ aa (Kd.V (Kd.int .u64) 91 w' w.heap.size (fun k_ => (P0_ k_ ∨ w.heap.size ≤ k_) ∧ some k_ ≠ (x0 : Value).ownBlock ∧ some k_ ≠ (y0 : Value).ownBlock) v0 q0) ∧ aa (Kd.R (Kd.int .i64) 3 w' w.heap.size (fun k_ => (w.heap.size ≤ k_)) x0 p0) ∧ aa (Kd.R (Kd.int .u64) 91 w' w.heap.size (fun k_ => (w.heap.size ≤ k_)) y0 j0) ∧ aa (Below w.heap.size w w'))
 case atStart => exact ⟨(l0), (0), f0_, H', ⟨wa _⟩, ⟨by refine kV_ ?_; exact Kd.V_mono r0.out (fun _ hk => ⟨hk.1.1, ⟨hk.1.2, hk.2⟩⟩)⟩, ⟨by refine kR_ ?_; exact Kd.R_mono f0.out (fun _ hk => hk.1)⟩, ⟨by refine kR_ ?_; exact Kd.R_mono B0.out (fun _ hk => hk.1)⟩, ⟨hB_⟩⟩
 clear H'
 obtain ⟨q0, a0, rfl, HA, P0, d0, b0, e0, HB⟩ := hrel
 rcases gk with _ | k1
 ·exact absurd HA.out (by simp [aN.l0])
 have H := HA.out
 clear HA
 simp only [aN.l0] at H
 by_cases c6 : a0 < 24
 rotate_left
 ·rw [Aa c6] at H
  have F0 := ua c6
  clear c6
  obtain rfl := sI H
  go_wp2
  go_ret
  exact ⟨_, f1_, by refine kV_ ?_; exact Kd.V_mono d0.out (fun _ hk => hk.1), hB_⟩
 rw [za c6] at H
 have F0 := ta c6
 clear c6
 obtain ⟨R0, H⟩ := iD_ H
 obtain ⟨S0, H⟩ := iD_ H
 obtain ⟨C0, A9, H⟩ := bN_ H
 have H' := aa.mk H
 clear H
 obtain ⟨T0, U0, G0⟩ := Kd.R_slice e0.out
 subst G0
 have t0 : 0 ≤ (a0 : Int) := oD_
 have u0 : a0 < (j0.length : Int) := oD_
 obtain ⟨Q0, H0, E0⟩ := Kd.at_int (Kd.R_reads' e0.out).2.2 a0 t0 u0
 cases H0
 replace t0 := va t0
 replace u0 := va u0
 obtain ⟨I0, J0, K0⟩ := Kd.V_slice d0.out
 subst K0
 obtain ⟨L0, M0, N0⟩ := Kd.R_slice b0.out
 subst N0
 go_wp2_with (first | ((with_reducible refine ae (f := 102) rfl ?_); refine aq (some 18) rfl rfl Tryz.func102 (by kernel_rfl) rfl #[.slice I0 q0.length J0, .slice L0 p0.length M0, .int .u64 (rd j0 a0)] rfl aM_ ?_; (with_reducible refine (af.calls k1 _ _ q0 _ _ p0 (rd j0 a0) C0 _ ?side1 ?side2 ?side3 ?side4 A9.out).mono ?_); (case side1 => exact cR_ (Kd.V_reads' d0.out).2.2); (case side2 => exact (Kd.V_reads' d0.out).2.1); (case side3 => exact cR_ (Kd.R_reads' b0.out).2.2); (case side4 => exact (Kd.R_reads' b0.out).2.1); rintro e W0 ⟨V0, rfl, k0, hb⟩; refine ⟨_, rfl, ?_⟩; have n_ := b_ (Kd.V_elder' (rV_ d0.out) (Kd.R_base k0) hb) <| b_ (Kd.R_below (rR_ b0.out) hb) <| b_ (Kd.R_elder' (rR_ e0.out) (Kd.R_base k0) hb) <| b_ (Kd.R_lower (Kd.R_new' (Kd.R_newM (M := fun k_ => (w.heap.size ≤ k_)) k0 (ab (hB_)) (fun k_ h_ => h_)) (Kd.R_lt (rR_ e0.out))) (ab (hB_))) <| c_ (ac (hB_) hb); clear d0 b0 e0 HB; obtain ⟨d0, b0, e0, D0, HB⟩ := n_; (try clear k0)))
 go_roundg k1
 case measure => have := P0.out; omega
 case rel => exact ⟨(C0), (wrap64 (a0 + 1)), f0_, H', ⟨by have := P0.out; omega⟩, ⟨Kd.V_mono (Kd.R_V (Kd.R_apart' D0.out (Kd.R_typed b0.out) (by decide))) (fun k_ hk => ⟨.inr hk.1.1.1, hk.2, hk.1.2⟩)⟩, ⟨rR_ b0.out⟩, ⟨by refine kR_ ?_; exact Kd.R_mono e0.out (fun _ hk => hk.1)⟩, ⟨hB_⟩⟩

/-! ### aJ: function 96 -/
mutual
def aJ.l0 : Nat → List Int → List Int → Int → Option (ByteArray)
 | 0, _, _, _ => none
 | k + 1, x0, x3, x4 => if x4 < (x0.length : Int) then (if 0 ≤ x4 then (aJ.l1 k x0 x3 x4 (rd x0 x4) 0) else (none)) else (some (strOfNums x3))
def aJ.l1 : Nat → List Int → List Int → Int → Int → Int → Option (ByteArray)
 | 0, _, _, _, _, _ => none
 | k + 1, x0, x3, x4, x5, x6 => if x6 < 8 then (if x3.length < 140737488355328 then (aJ.l1 k x0 (x3 ++ [(Int.tmod x5 256) % 256]) x4 (IntKind.u64.wrap (Int.tdiv x5 256)) (wrap64 (x6 + 1))) else (none)) else (aJ.l0 k x0 x3 (wrap64 (x4 + 1)))
end
def aJ.f (k : Nat) (l0 : List Int) : Option (ByteArray) := aJ.l0 k l0 (([] : List Int)) 0
theorem aJ.mono_l : ∀ k, (∀ y0 y1 y2, LeO (aJ.l0 k y0 y1 y2) (aJ.l0 (k + 1) y0 y1 y2)) ∧ (∀ y0 y1 y2 y3 y4, LeO (aJ.l1 k y0 y1 y2 y3 y4) (aJ.l1 (k + 1) y0 y1 y2 y3 y4))
 | 0 => ⟨fun _ _ _ r h => by simp [aJ.l0] at h, fun _ _ _ _ _ r h => by simp [aJ.l1] at h⟩
 | k + 1 => by
  obtain ⟨ih0, ih1⟩ := aJ.mono_l k
  refine ⟨?_, ?_⟩ <;> (intros; (first | unfold aJ.l0 | unfold aJ.l1); exact o2_ ih0 ih1)
theorem aJ.mono : ∀ a0 k, LeO (aJ.f k a0) (aJ.f (k + 1) a0) := by
 intro a0 k
 obtain ⟨ih0, ih1⟩ := aJ.mono_l k
 unfold aJ.f
 exact o2_ ih0 ih1
theorem aJ.calls (k : Nat) (A0 : Option Addr) (c0 : Nat) (l0 : List Int) (r : ByteArray) (w : World) (hr0 : Kd.C (Kd.int .u64) w A0 l0.length l0) (hc0 : l0.length ≤ c0) (h : aJ.f k l0 = some r) :
  Calls Tryz.prog 96 #[.slice A0 l0.length c0] w fun e w' => e = .returned (.string r) ∧ Below w.heap.size w w' := by
 have L0 := aa.mk hr0
 have Q0 := aa.mk hc0
 clear hr0 hc0
 have HB := aa.mk (xa w.heap.size w)
 delta aJ.f at h
 have H := h
 clear h
 obtain ⟨E0, e0⟩ : ∃ y_ : List Int, y_ = (([] : List Int)) := ⟨_, rfl⟩
 first | replace H := yb_ e0 H | rw [← e0] at H
 have r0 := aa.mk e0
 clear e0
 have H' := aa.mk H
 clear H
 go_enter Tryz.func96, Tryz.ntmps96
 go_wp2_with (first | ((with_reducible refine aI (N := 7) rfl ?_); refine Kd.R_lit (Kd.int .u8) _ 5 ?hg (N := 7) ?hd (xs := ([] : List Int)) (inner := []) (ok := fun _ => True) (okp := fun _ => True) ?hr ?hp (fun _ hk => hk) trivial (xa _ _) (wa _) (by simp) ?_; (case hd => rfl); (case hg => rfl); (case hr => first | (go_simp; done) | (go_simp; rfl)); (case hp => exact (br.none _ _)); intro M0 w2 v0 hb hg_ hnew_; clear hg_ hnew_; (first | rw [← r0.out] at v0 | (simp only [Int.reduceToNat] at v0; rw [← r0.out] at v0)); have n_ := b_ (Kd.R_lower v0 (ab (hB_))) <| c_ (ac (hB_) hb); clear HB; obtain ⟨x0, HB⟩ := n_; clear hb v0))
 go_loopg [3, 4] k (fun kq v3 v4 w' => ∃ (q0 : List Int) (a0 : Int), v4 = .int .i64 a0 ∧ aa (aJ.l0 kq l0 q0 a0 = some r) ∧ aa (kq ≤ k) ∧ aa (Kd.R (Kd.int .u8) 5 w' w.heap.size (fun _ => True) v3 q0) ∧ aa (Below w.heap.size w w'))
 case atStart => exact ⟨(E0), (0), f0_, H', ⟨wa _⟩, ⟨rR_ x0.out⟩, ⟨hB_⟩⟩
 clear H'
 obtain ⟨q0, a0, rfl, HA, C0, j0, HB⟩ := hrel
 rcases gk with _ | k1
 ·exact absurd HA.out (by simp [aJ.l0])
 have H := HA.out
 clear HA
 simp only [aJ.l0] at H
 by_cases c4 : a0 < (l0.length : Int)
 rotate_left
 ·rw [Aa c4] at H
  have F0 := ua c4
  clear c4
  obtain rfl := sI H
  have N0 := dD (P := Tryz.prog) Tryz.underlying57 Tryz.underlying5 Tryz.underlying9 (Kd.own_of_R j0.out)
  go_wp2
  go_ret
  exact ⟨f1_, hB_⟩
 rw [za c4] at H
 have F0 := ta c4
 clear c4
 obtain ⟨O0, H⟩ := iD_ H
 have H' := aa.mk H
 clear H
 have t0 : 0 ≤ (a0 : Int) := oD_
 have u0 : a0 < (l0.length : Int) := oD_
 obtain ⟨K0, G0, b0⟩ := Kd.at_int L0.out a0 t0 u0
 cases G0
 replace b0 := (HB.out.cell (World.block_lt_of_cell? w _ b0)).trans b0
 replace t0 := va t0
 replace u0 := va u0
 go_wp2
 go_loopg [3, 5, 6] k1 (fun kq v3 v5 v6 w' => ∃ (k0 : List Int) (d0 : Int) (p0 : Int), v5 = .int .u64 d0 ∧ v6 = .int .i64 p0 ∧ aa (aJ.l1 kq l0 k0 a0 d0 p0 = some r) ∧ aa (kq ≤ k1) ∧ aa (Kd.R (Kd.int .u8) 5 w' w.heap.size (fun _ => True) v3 k0) ∧ aa (Below w.heap.size w w'))
 case atStart => exact ⟨(q0), (rd l0 a0), (0), f0_, f0_, H', ⟨wa _⟩, ⟨rR_ j0.out⟩, ⟨hB_⟩⟩
 clear H'
 obtain ⟨k0, d0, p0, rfl, rfl, HA, D0, j0, HB⟩ := hrel
 rcases gk with _ | k2
 ·exact absurd HA.out (by simp [aJ.l1])
 have H := HA.out
 clear HA
 simp only [aJ.l1] at H
 by_cases c6 : p0 < 8
 ·rw [za c6] at H
  have H0 := ta c6
  clear c6
  obtain ⟨c7, H⟩ := iN_ H
  have I0 := aa.mk c7
  clear c7
  obtain ⟨J0, f0⟩ : ∃ y_ : List Int, y_ = (k0 ++ [(Int.tmod d0 256) % 256]) := ⟨_, rfl⟩
  first | replace H := yb_ f0 H | rw [← f0] at H
  have y0 := aa.mk f0
  clear f0
  have H' := aa.mk H
  clear H
  go_wp2_with (first | ((with_reducible refine aV (b := .append) (xs := #[.tmp 22, .tmp 26]) rfl ?_); at_builtin; refine Kd.R_append (Kd.int .u8) (w0 := w) w.heap.size rfl (.tmp 22) (.tmp 26) 57 5 (.int .u8 0) 1 rfl Tryz.underlying57 iD rfl (by decide) (by omega) u3 k0 ((Int.tmod d0 256) % 256) [.int .u8 ((Int.tmod d0 256) % 256)] (fun _ => True) (fun _ => False) rfl rfl ?aP (fun _ hk => hk.elim) ?aF ?aO ?aB ?aS ?aL ?_; (case aP => exact rfl); (case aB => exact (hB_)); (case aF => exact (fun _ _ => trivial)); (case aO => exact (rR_ j0.out)); (case aS => exact (ab (hB_))); (case aL => have := I0.out; omega); intro P0 w8 ho hb hg hat; rw [← y0.out] at ho; have n_ := b_ (hb) <| c_ (ho); clear j0 HB; obtain ⟨HB, B0⟩ := n_; clear ho hb hg hat))
  go_roundg k2
  case measure => have := C0.out; have := D0.out; omega
  case rel => exact ⟨(J0), (IntKind.u64.wrap (Int.tdiv d0 256)), (wrap64 (p0 + 1)), f0_, f0_, H', ⟨by have := C0.out; have := D0.out; omega⟩, ⟨rR_ B0.out⟩, ⟨hB_⟩⟩
 rw [Aa c6] at H
 have H0 := ua c6
 clear c6
 have H' := aa.mk H
 clear H
 go_wp2
 go_roundg k2
 case measure => have := C0.out; have := D0.out; omega
 case rel => exact ⟨(k0), (wrap64 (a0 + 1)), f0_, H', ⟨by have := C0.out; have := D0.out; omega⟩, ⟨rR_ j0.out⟩, ⟨hB_⟩⟩

-- GIVEN: function 89 (cv)

/-! ### cG: function 90 -/
def cG.f (k : Nat) (a0 : ByteArray) : Option (ByteArray) := if (a0.size : Int) = 200 then ((aK.f k a0).bind fun t313 => ((aN.f k t313).bind fun t316 => ((aJ.f k t316).bind fun t319 => (some t319)))) else (some a0)
theorem cG.mono : ∀ a0 k, LeO (cG.f k a0) (cG.f (k + 1) a0) := by
 intro a0 k
 unfold cG.f
 exact o3_ aJ.mono aK.mono aN.mono
theorem cG.calls (k : Nat) (a0 : ByteArray) (r : ByteArray) (w : World) (h : cG.f k a0 = some r) :
  Calls Tryz.prog 90 #[.string a0] w fun e w' => e = .returned (.string r) ∧ Below w.heap.size w w' := by
 have HB := aa.mk (xa w.heap.size w)
 delta cG.f at h
 have H := h
 clear h
 by_cases c2 : (a0.size : Int) = 200
 ·rw [za c2] at H
  have j0 : ((a0.size : Int) == 200) = true := beq_iff_eq.mpr c2
  have k0 : ((a0.size : Int) != 200) = false := bne_eq_false_iff_eq.mpr c2
  clear c2
  obtain ⟨e0, A3, H⟩ := bN_ H
  obtain ⟨f0, A4, H⟩ := bN_ H
  obtain ⟨p0, A5, H⟩ := bN_ H
  obtain rfl := sI H
  go_enter Tryz.func90, Tryz.ntmps90
  go_wp2_with (first | ((with_reducible refine ae (f := 94) rfl ?_); refine aq (some 8) rfl rfl Tryz.func94 (by kernel_rfl) rfl #[.string a0] rfl aM_ ?_; (with_reducible refine (aK.calls k a0 e0 _ A3.out).mono ?_); rintro e w6 ⟨u0, rfl, q0, hb⟩; refine ⟨_, rfl, ?_⟩; have n_ := b_ (Kd.R_lower q0 (ab (hB_))) <| c_ (ac (hB_) hb); clear HB; obtain ⟨b0, HB⟩ := n_; obtain ⟨r0, t0, v0⟩ := Kd.R_slice b0.out; subst v0) | ((with_reducible refine ae (f := 95) rfl ?_); refine aq (some 9) rfl rfl Tryz.func95 (by kernel_rfl) rfl #[.slice r0 e0.length t0] rfl aM_ ?_; (with_reducible refine (aN.calls k (fun k_ => some k_ = (.slice r0 e0.length t0 : Value).ownBlock) _ _ e0 f0 _ ?side1 A4.out).mono ?_); (case side1 => exact Kd.R_V (Kd.R_tight rfl (b0.out))); rintro e w8 ⟨x0, rfl, q0, hb⟩; refine ⟨_, rfl, ?_⟩; have n_ := b_ (Kd.R_below (rR_ b0.out) hb) <| b_ (Kd.V_lower (Kd.V_mono (ok' := fun k_ => True) q0 (fun k_ hk_ => trivial)) (ab (hB_))) <| c_ (ac (hB_) hb); clear b0 HB; obtain ⟨b0, d0, HB⟩ := n_; obtain ⟨y0, B0, C0⟩ := Kd.V_slice d0.out; subst C0) | ((with_reducible refine ae (f := 96) rfl ?_); refine aq (some 10) rfl rfl Tryz.func96 (by kernel_rfl) rfl #[.slice y0 f0.length B0] rfl aM_ ?_; (with_reducible refine (aJ.calls k _ _ f0 p0 _ ?side1 ?side2 A5.out).mono ?_); (case side1 => exact cR_ (Kd.V_reads' d0.out).2.2); (case side2 => exact (Kd.V_reads' d0.out).2.1); rintro e D0 ⟨rfl, hb⟩; refine ⟨_, rfl, ?_⟩; have n_ := b_ (Kd.R_below (rR_ b0.out) hb) <| b_ (Kd.V_below (rV_ d0.out) hb) <| c_ (ac (hB_) hb); clear b0 d0 HB; obtain ⟨b0, d0, HB⟩ := n_; (try clear hb)))
  go_ret
  exact ⟨f1_, hB_⟩
 rw [Aa c2] at H
 have j0 : ((a0.size : Int) == 200) = false := beq_eq_false_iff_ne.mpr c2
 have k0 : ((a0.size : Int) != 200) = true := bne_iff_ne.mpr c2
 obtain rfl := sI H
 go_enter Tryz.func90, Tryz.ntmps90
 go_wp2
 go_ret
 exact ⟨f1_, hB_⟩

-- GIVEN: function 80 (aw)

/-! ### bh: function 48 -/
mutual
def bh.j0 : Nat → Int → Int → Option (Int)
 | 0, _, _ => none
 | k + 1, x0, x1 => bh.l0 k x0 x1 1
def bh.l0 : Nat → Int → Int → Int → Option (Int)
 | 0, _, _, _ => none
 | k + 1, x0, x1, x5 => if x1 > 0 then (if (Int.tmod x1 2) = 1 then (bh.l0 k (Int.tmod (wrap64 (x0 * x0)) 3329) (wrap64 (Int.tdiv x1 2)) (Int.tmod (wrap64 (x5 * x0)) 3329)) else (bh.l0 k (Int.tmod (wrap64 (x0 * x0)) 3329) (wrap64 (Int.tdiv x1 2)) x5)) else (some x5)
end
def bh.f (k : Nat) (a0 : Int) (a1 : Int) : Option (Int) := (aW.f a1 0 1000000000).bind fun t353 => (if t353 = true then (if (Int.tmod a0 3329) < 0 then (bh.j0 k (wrap64 ((Int.tmod a0 3329) + 3329)) a1) else (bh.j0 k (Int.tmod a0 3329) a1)) else (some 0))
theorem bh.mono_l : ∀ k, (∀ y0 y1, LeO (bh.j0 k y0 y1) (bh.j0 (k + 1) y0 y1)) ∧ (∀ y0 y1 y2, LeO (bh.l0 k y0 y1 y2) (bh.l0 (k + 1) y0 y1 y2))
 | 0 => ⟨fun _ _ r h => by simp [bh.j0] at h, fun _ _ _ r h => by simp [bh.l0] at h⟩
 | k + 1 => by
  obtain ⟨ih0, ih1⟩ := bh.mono_l k
  refine ⟨?_, ?_⟩ <;> (intros; (first | unfold bh.j0 | unfold bh.l0); exact o2_ ih0 ih1)
theorem bh.mono : ∀ a0 a1 k, LeO (bh.f k a0 a1) (bh.f (k + 1) a0 a1) := by
 intro a0 a1 k
 obtain ⟨ih0, ih1⟩ := bh.mono_l k
 unfold bh.f
 exact o2_ ih0 ih1
theorem bh.calls (k : Nat) (a0 : Int) (a1 : Int) (r : Int) (w : World) (h : bh.f k a0 a1 = some r) :
  Calls Tryz.prog 48 #[.int .i64 a0, .int .i64 a1] w fun e w' => e = .returned (.int .i64 r) ∧ cp w w' := by
 delta bh.f at h
 have H := h
 clear h
 obtain ⟨r0, A3, H⟩ := bN_ H
 by_cases c4 : r0 = true
 ·subst c4
  replace H := iT_ H
  have t0 := aa.mk H
  clear H
  go_enter Tryz.func48, Tryz.ntmps48
  go_upto_if 12 with (first | ((with_reducible refine ae (f := 75) rfl ?_); refine aq (some 7) rfl rfl Tryz.func75 (by kernel_rfl) rfl #[.int .i64 a1, .int .i64 0, .int .i64 1000000000] rfl aM_ ?_; (with_reducible refine (aW.calls a1 0 1000000000 true _ A3.out).mono ?_); rintro e w' ⟨rfl, ⟨nd, rfl⟩⟩; refine ⟨_, rfl, ?_⟩))
  (try simp only [Act.put, List.setIfInBounds_toArray, List.set_cons_zero, List.set_cons_succ])
  go_cut [0] (fun v0 wc => ∃ (kq : Nat) (k0 : Int), v0 = .int .i64 k0 ∧ aa (bh.j0 kq k0 a1 = some r) ∧ aa (kq ≤ k) ∧ cp w wc)
  case first =>
   have H := t0.out
   clear t0
   by_cases c6 : (Int.tmod a0 3329) < 0
   ·rw [za c6] at H
    have e0 := ta c6
    clear c6
    (first | rw [e0] | (simp only [bB, cJ]; rw [e0]) | skip)
    have H' := aa.mk H
    clear H
    go_wp2
    go_meet
    case rel => exact ⟨_, (wrap64 ((Int.tmod a0 3329) + 3329)), f0_, H', ⟨by first | omega | exact wa _⟩, d0_⟩
   rw [Aa c6] at H
   have e0 := ua c6
   clear c6
   (first | rw [e0] | (simp only [bB, cJ]; rw [e0]) | skip)
   have H' := aa.mk H
   clear H
   go_wp2
   go_meet
   case rel => exact ⟨_, (Int.tmod a0 3329), f0_, H', ⟨by first | omega | exact wa _⟩, d0_⟩
  clear t0
  obtain ⟨kq, k0, rfl, HA, p0, ⟨mc4, rfl⟩⟩ := hcut
  rcases kq with _ | B0
  ·exact absurd HA.out (by simp [bh.j0])
  have H := HA.out
  clear HA
  simp only [bh.j0] at H
  have H' := aa.mk H
  clear H
  go_wp2
  go_loopg [0, 1, 5] B0 (fun kq v0 v1 v5 w' => ∃ (d0 : Int) (b0 : Int) (f0 : Int), v0 = .int .i64 d0 ∧ v1 = .int .i64 b0 ∧ v5 = .int .i64 f0 ∧ aa (bh.l0 kq d0 b0 f0 = some r) ∧ aa (kq ≤ B0) ∧ cp w w')
  case atStart => exact ⟨(k0), (a1), (1), f0_, f0_, f0_, H', ⟨wa _⟩, d0_⟩
  clear H'
  obtain ⟨d0, b0, f0, rfl, rfl, rfl, HA, q0, ⟨m2, rfl⟩⟩ := hrel
  rcases gk with _ | k2
  ·exact absurd HA.out (by simp [bh.l0])
  have H := HA.out
  clear HA
  simp only [bh.l0] at H
  by_cases c7 : b0 > 0
  ·rw [za c7] at H
   have u0 := ta c7
   clear c7
   by_cases c8 : (Int.tmod b0 2) = 1
   ·rw [za c8] at H
    have x0 : ((Int.tmod b0 2) == 1) = true := beq_iff_eq.mpr c8
    have y0 : ((Int.tmod b0 2) != 1) = false := bne_eq_false_iff_eq.mpr c8
    clear c8
    have H' := aa.mk H
    clear H
    go_wp2
    go_roundg k2
    case measure => have := p0.out; have := q0.out; omega
    case rel => exact ⟨(Int.tmod (wrap64 (d0 * d0)) 3329), (wrap64 (Int.tdiv b0 2)), (Int.tmod (wrap64 (f0 * d0)) 3329), f0_, f0_, f0_, H', ⟨by have := p0.out; have := q0.out; omega⟩, d0_⟩
   rw [Aa c8] at H
   have x0 : ((Int.tmod b0 2) == 1) = false := beq_eq_false_iff_ne.mpr c8
   have y0 : ((Int.tmod b0 2) != 1) = true := bne_iff_ne.mpr c8
   have H' := aa.mk H
   clear H
   go_wp2
   go_roundg k2
   case measure => have := p0.out; have := q0.out; omega
   case rel => exact ⟨(Int.tmod (wrap64 (d0 * d0)) 3329), (wrap64 (Int.tdiv b0 2)), (f0), f0_, f0_, f0_, H', ⟨by have := p0.out; have := q0.out; omega⟩, d0_⟩
  rw [Aa c7] at H
  have u0 := ua c7
  clear c7
  obtain rfl := sI H
  go_wp2
  go_ret
  exact ⟨f0_, d0_⟩
 ·replace c4 := ya c4
  subst c4
  replace H := iF_ H
  obtain rfl := sI H
  go_enter Tryz.func48, Tryz.ntmps48
  go_wp2_with (first | ((with_reducible refine ae (f := 75) rfl ?_); refine aq (some 7) rfl rfl Tryz.func75 (by kernel_rfl) rfl #[.int .i64 a1, .int .i64 0, .int .i64 1000000000] rfl aM_ ?_; (with_reducible refine (aW.calls a1 0 1000000000 false _ A3.out).mono ?_); rintro e w' ⟨rfl, ⟨nd, rfl⟩⟩; refine ⟨_, rfl, ?_⟩))
  go_ret
  exact ⟨f0_, d0_⟩

/-! ### ba: function 49 -/
mutual
def ba.j0 : Nat → Int → Option (Int)
 | 0, _ => none
 | k + 1, x0 => ba.l0 k x0 0 0
def ba.l0 : Nat → Int → Int → Int → Option (Int)
 | 0, _, _, _ => none
 | k + 1, x0, x3, x4 => if x4 < 7 then (ba.l0 k (wrap64 (Int.tdiv x0 2)) (wrap64 ((wrap64 (2 * x3)) + (Int.tmod x0 2))) (wrap64 (x4 + 1))) else (some x3)
end
def ba.f (k : Nat) (a0 : Int) : Option (Int) := if (Int.tmod a0 128) < 0 then (ba.j0 k (wrap64 ((Int.tmod a0 128) + 128))) else (ba.j0 k (Int.tmod a0 128))
theorem ba.mono_l : ∀ k, (∀ y0, LeO (ba.j0 k y0) (ba.j0 (k + 1) y0)) ∧ (∀ y0 y1 y2, LeO (ba.l0 k y0 y1 y2) (ba.l0 (k + 1) y0 y1 y2))
 | 0 => ⟨fun _ r h => by simp [ba.j0] at h, fun _ _ _ r h => by simp [ba.l0] at h⟩
 | k + 1 => by
  obtain ⟨ih0, ih1⟩ := ba.mono_l k
  refine ⟨?_, ?_⟩ <;> (intros; (first | unfold ba.j0 | unfold ba.l0); exact o2_ ih0 ih1)
theorem ba.mono : ∀ a0 k, LeO (ba.f k a0) (ba.f (k + 1) a0) := by
 intro a0 k
 obtain ⟨ih0, ih1⟩ := ba.mono_l k
 unfold ba.f
 exact o2_ ih0 ih1
theorem ba.calls (k : Nat) (a0 : Int) (r : Int) (w : World) (h : ba.f k a0 = some r) :
  Calls Tryz.prog 49 #[.int .i64 a0] w fun e w' => e = .returned (.int .i64 r) ∧ cp w w' := by
 delta ba.f at h
 have H := h
 clear h
 have p0 := aa.mk H
 clear H
 go_enter Tryz.func49, Tryz.ntmps49
 go_upto_if 8 with (fail)
 go_cut [0] (fun v0 wc => ∃ (kq : Nat) (f0 : Int), v0 = .int .i64 f0 ∧ aa (ba.j0 kq f0 = some r) ∧ aa (kq ≤ k) ∧ cp w wc)
 case first =>
  have H := p0.out
  clear p0
  by_cases c3 : (Int.tmod a0 128) < 0
  ·rw [za c3] at H
   have b0 := ta c3
   clear c3
   (first | rw [b0] | (simp only [bB, cJ]; rw [b0]) | skip)
   have H' := aa.mk H
   clear H
   go_wp2
   go_meet
   case rel => exact ⟨_, (wrap64 ((Int.tmod a0 128) + 128)), f0_, H', ⟨by first | omega | exact wa _⟩, d0_⟩
  rw [Aa c3] at H
  have b0 := ua c3
  clear c3
  (first | rw [b0] | (simp only [bB, cJ]; rw [b0]) | skip)
  have H' := aa.mk H
  clear H
  go_wp2
  go_meet
  case rel => exact ⟨_, (Int.tmod a0 128), f0_, H', ⟨by first | omega | exact wa _⟩, d0_⟩
 clear p0
 obtain ⟨kq, f0, rfl, HA, r0, ⟨mc1, rfl⟩⟩ := hcut
 rcases kq with _ | t0
 ·exact absurd HA.out (by simp [ba.j0])
 have H := HA.out
 clear HA
 simp only [ba.j0] at H
 have H' := aa.mk H
 clear H
 go_wp2
 go_loopg [0, 3, 4] t0 (fun kq v0 v3 v4 w' => ∃ (d0 : Int) (k0 : Int) (e0 : Int), v0 = .int .i64 d0 ∧ v3 = .int .i64 k0 ∧ v4 = .int .i64 e0 ∧ aa (ba.l0 kq d0 k0 e0 = some r) ∧ aa (kq ≤ t0) ∧ cp w w')
 case atStart => exact ⟨(f0), (0), (0), f0_, f0_, f0_, H', ⟨wa _⟩, d0_⟩
 clear H'
 obtain ⟨d0, k0, e0, rfl, rfl, rfl, HA, u0, ⟨m2, rfl⟩⟩ := hrel
 rcases gk with _ | k2
 ·exact absurd HA.out (by simp [ba.l0])
 have H := HA.out
 clear HA
 simp only [ba.l0] at H
 by_cases c4 : e0 < 7
 ·rw [za c4] at H
  have q0 := ta c4
  clear c4
  have H' := aa.mk H
  clear H
  go_wp2
  go_roundg k2
  case measure => have := r0.out; have := u0.out; omega
  case rel => exact ⟨(wrap64 (Int.tdiv d0 2)), (wrap64 ((wrap64 (2 * k0)) + (Int.tmod d0 2))), (wrap64 (e0 + 1)), f0_, f0_, f0_, H', ⟨by have := r0.out; have := u0.out; omega⟩, d0_⟩
 rw [Aa c4] at H
 have q0 := ua c4
 clear c4
 obtain rfl := sI H
 go_wp2
 go_ret
 exact ⟨f0_, d0_⟩

/-! ### bf: function 16 -/
mutual
def bf.l0 : Nat → List Int → Int → Int → Option (List Int)
 | 0, _, _, _ => none
 | k + 1, x3, x4, x5 => if x5 ≥ 2 then (bf.l1 k x3 x4 x5 0) else (some x3)
def bf.l1 : Nat → List Int → Int → Int → Int → Option (List Int)
 | 0, _, _, _, _ => none
 | k + 1, x3, x4, x5, x6 => if x6 < 256 then ((ba.f k x4).bind fun t364 => ((bh.f k 17 t364).bind fun t365 => (bf.l2 k x3 (wrap64 (x4 + 1)) x5 x6 t365 x6))) else (bf.l0 k x3 x4 (wrap64 (Int.tdiv x5 2)))
def bf.l2 : Nat → List Int → Int → Int → Int → Int → Int → Option (List Int)
 | 0, _, _, _, _, _, _ => none
 | k + 1, x3, x4, x5, x6, x7, x8 => if x8 < (wrap64 (x6 + x5)) then (if 0 ≤ (wrap64 (x8 + x5)) then (if (wrap64 (x8 + x5)) < (x3.length : Int) then (if 0 ≤ x8 then (if x8 < (x3.length : Int) then ((some (x3.set ((wrap64 (x8 + x5)) : Int).toNat (Int.tmod (wrap64 ((wrap64 ((rd x3 x8) - (Int.tmod (wrap64 (x7 * (rd x3 (wrap64 (x8 + x5))))) 3329))) + 3329)) 3329) : List Int)).bind fun y368 => (bf.l2 k (y368.set (x8 : Int).toNat (Int.tmod (wrap64 ((rd y368 x8) + (Int.tmod (wrap64 (x7 * (rd x3 (wrap64 (x8 + x5))))) 3329))) 3329)) x4 x5 x6 x7 (wrap64 (x8 + 1)))) else (none)) else (none)) else (none)) else (none)) else (bf.l1 k x3 x4 x5 (wrap64 (x6 + (wrap64 (2 * x5)))))
end
def bf.f (k : Nat) (l0 : List Int) : Option (List Int) := (ar.f k l0).bind fun t354 => (if t354 = true then ((some (([] : List Int) : List Int)).bind fun y358 => (if y358.length + l0.length < 17592186044416 then (bf.l0 k (y358 ++ l0) 1 128) else (none))) else (some (([] : List Int))))
theorem bf.mono_l : ∀ k, (∀ y0 y1 y2, LeO (bf.l0 k y0 y1 y2) (bf.l0 (k + 1) y0 y1 y2)) ∧ (∀ y0 y1 y2 y3, LeO (bf.l1 k y0 y1 y2 y3) (bf.l1 (k + 1) y0 y1 y2 y3)) ∧ (∀ y0 y1 y2 y3 y4 y5, LeO (bf.l2 k y0 y1 y2 y3 y4 y5) (bf.l2 (k + 1) y0 y1 y2 y3 y4 y5))
 | 0 => ⟨fun _ _ _ r h => by simp [bf.l0] at h, fun _ _ _ _ r h => by simp [bf.l1] at h, fun _ _ _ _ _ _ r h => by simp [bf.l2] at h⟩
 | k + 1 => by
  obtain ⟨ih0, ih1, ih2⟩ := bf.mono_l k
  refine ⟨?_, ?_, ?_⟩ <;> (intros; (first | unfold bf.l0 | unfold bf.l1 | unfold bf.l2); exact o6_ ih0 ih1 ih2 ar.mono bh.mono ba.mono)
theorem bf.mono : ∀ a0 k, LeO (bf.f k a0) (bf.f (k + 1) a0) := by
 intro a0 k
 obtain ⟨ih0, ih1, ih2⟩ := bf.mono_l k
 unfold bf.f
 exact o6_ ih0 ih1 ih2 ar.mono bh.mono ba.mono
theorem bf.calls (k : Nat) (A0 : Option Addr) (c0 : Nat) (l0 : List Int) (r : List Int) (w : World) (hr0 : Kd.C (Kd.int .i64) w A0 l0.length l0) (hc0 : l0.length ≤ c0) (h : bf.f k l0 = some r) :
  Calls Tryz.prog 16 #[.slice A0 l0.length c0] w fun e w' => ∃ R1 : Value, e = .returned (R1) ∧ Kd.R (Kd.int .i64) 3 w' w.heap.size (fun _ => True) R1 r ∧ Below w.heap.size w w' := by
 have y1 := aa.mk hr0
 have S1 := aa.mk hc0
 clear hr0 hc0
 have HB := aa.mk (xa w.heap.size w)
 delta bf.f at h
 have H := h
 clear h
 obtain ⟨z1, A2, H⟩ := bN_ H
 by_cases c3 : z1 = true
 ·subst c3
  replace H := iT_ H
  obtain ⟨X0, r0⟩ : ∃ y_ : List Int, y_ = (([] : List Int)) := ⟨_, rfl⟩
  first | replace H := yb_ r0 H | rw [← r0] at H
  have I0 := aa.mk r0
  clear r0
  obtain ⟨c4, H⟩ := iN_ H
  have A1 := aa.mk c4
  clear c4
  obtain ⟨B1, t0⟩ : ∃ y_ : List Int, y_ = (X0 ++ l0) := ⟨_, rfl⟩
  first | replace H := yb_ t0 H | rw [← t0] at H
  have Y0 := aa.mk t0
  clear t0
  have H' := aa.mk H
  clear H
  go_enter Tryz.func16, Tryz.ntmps16
  go_wp2_with (first | ((with_reducible refine ae (f := 47) rfl ?_); refine aq (some 11) rfl rfl Tryz.func47 (by kernel_rfl) rfl #[.slice A0 l0.length c0] rfl aM_ ?_; (with_reducible refine (ar.calls k _ _ l0 true _ ?side1 ?side2 A2.out).mono ?_); (case side1 => exact cR_ y1.out); (case side2 => exact S1.out); rintro e w' ⟨rfl, ⟨nd, rfl⟩⟩; refine ⟨_, rfl, ?_⟩) | ((with_reducible refine aI (N := 14) rfl ?_); refine Kd.R_lit (Kd.int .i64) _ 3 ?hg (N := 14) ?hd (xs := ([] : List Int)) (inner := []) (ok := fun _ => True) (okp := fun _ => True) ?hr ?hp (fun _ hk => hk) trivial (xa _ _) (wa _) (by simp) ?_; (case hd => rfl); (case hg => rfl); (case hr => first | (go_simp; done) | (go_simp; rfl)); (case hp => exact (br.none _ _)); intro C1 w5 Z0 hb hg_ hnew_; clear hg_ hnew_; (first | rw [← I0.out] at Z0 | (simp only [Int.reduceToNat] at Z0; rw [← I0.out] at Z0)); have n_ := b_ (Kd.R_lower Z0 (ab (hB_))) <| c_ (ac (hB_) hb); clear HB; obtain ⟨J0, HB⟩ := n_; clear hb Z0) | ((with_reducible refine aV (b := .append) (xs := #[.tmp 14, .tmp 15]) rfl ?_); at_builtin; refine Kd.R_append_rows (Kd.int .i64) (w0 := w) w.heap.size rfl (.tmp 14) (.tmp 15) 38 3 (.int .i64 0) 8 rfl Tryz.underlying38 cS rfl (by decide) (by omega) C1 X0 l0 _ _ _ (fun _ => True) (fun _ => False) rfl rfl ?aO ?aR (fun _ _ h => h) (fun _ h => h.elim) ?aF ?aB ?aS ?aL ?_; (case aR => exact cR_ (Kd.C_below y1.out HB.out)); (case aB => exact (hB_)); (case aF => exact (fun _ _ => trivial)); (case aO => exact (rR_ J0.out)); (case aS => exact (ab (hB_))); (case aL => have := A1.out; omega); intro M0 w7 ho hb hg hat; rw [← Y0.out] at ho; have n_ := b_ (hb) <| c_ (ho); clear J0 HB; obtain ⟨HB, b1⟩ := n_; clear ho hb hg hat))
  go_loopg [4, 5] k (fun kq v4 v5 w' => ∃ (E0 : List Int) (F0 : Int) (f0 : Int), v4 = .int .i64 F0 ∧ v5 = .int .i64 f0 ∧ aa (bf.l0 kq E0 F0 f0 = some r) ∧ aa (kq ≤ k) ∧ aa (Kd.R (Kd.int .i64) 3 w' w.heap.size (fun _ => True) M0 E0) ∧ aa (Below w.heap.size w w'))
  case atStart => exact ⟨(B1), (1), (128), f0_, f0_, H', ⟨wa _⟩, ⟨rR_ b1.out⟩, ⟨hB_⟩⟩
  clear H'
  obtain ⟨E0, F0, f0, rfl, rfl, HA, U0, b0, HB⟩ := hrel
  rcases gk with _ | k1
  ·exact absurd HA.out (by simp [bf.l0])
  have H := HA.out
  clear HA
  simp only [bf.l0] at H
  by_cases c8 : f0 ≥ 2
  rotate_left
  ·rw [Aa c8] at H
   have D1 := ua c8
   clear c8
   obtain rfl := sI H
   go_wp2
   go_ret
   exact ⟨_, f1_, rR_ b0.out, hB_⟩
  rw [za c8] at H
  have D1 := ta c8
  clear c8
  have H' := aa.mk H
  clear H
  go_wp2
  go_loopg [4, 6] k1 (fun kq v4 v6 w' => ∃ (B0 : List Int) (k0 : Int) (p0 : Int), v4 = .int .i64 k0 ∧ v6 = .int .i64 p0 ∧ aa (bf.l1 kq B0 k0 f0 p0 = some r) ∧ aa (kq ≤ k1) ∧ aa (Kd.R (Kd.int .i64) 3 w' w.heap.size (fun _ => True) M0 B0) ∧ aa (Below w.heap.size w w'))
  case atStart => exact ⟨(E0), (F0), (0), f0_, f0_, H', ⟨wa _⟩, ⟨rR_ b0.out⟩, ⟨hB_⟩⟩
  clear H'
  obtain ⟨B0, k0, p0, rfl, rfl, HA, V0, b0, HB⟩ := hrel
  rcases gk with _ | k2
  ·exact absurd HA.out (by simp [bf.l1])
  have H := HA.out
  clear HA
  simp only [bf.l1] at H
  by_cases c9 : p0 < 256
  rotate_left
  ·rw [Aa c9] at H
   have E1 := ua c9
   clear c9
   have H' := aa.mk H
   clear H
   go_wp2
   go_roundg k2
   case measure => have := U0.out; have := V0.out; omega
   case rel => exact ⟨(B0), (k0), (wrap64 (Int.tdiv f0 2)), f0_, f0_, H', ⟨by have := U0.out; have := V0.out; omega⟩, ⟨rR_ b0.out⟩, ⟨hB_⟩⟩
  rw [za c9] at H
  have E1 := ta c9
  clear c9
  obtain ⟨N0, Z1, H⟩ := bN_ H
  obtain ⟨q0, b2, H⟩ := bN_ H
  have H' := aa.mk H
  clear H
  go_wp2_with (first | ((with_reducible refine ae (f := 49) rfl ?_); refine aq (some 28) rfl rfl Tryz.func49 (by kernel_rfl) rfl #[.int .i64 k0] rfl aM_ ?_; (with_reducible refine (ba.calls k2 k0 N0 _ Z1.out).mono ?_); rintro e w' ⟨rfl, ⟨nd, rfl⟩⟩; refine ⟨_, rfl, ?_⟩) | ((with_reducible refine ae (f := 48) rfl ?_); refine aq (some 29) rfl rfl Tryz.func48 (by kernel_rfl) rfl #[.int .i64 17, .int .i64 N0] rfl aM_ ?_; (with_reducible refine (bh.calls k2 17 N0 q0 _ b2.out).mono ?_); rintro e w' ⟨rfl, ⟨nd, rfl⟩⟩; refine ⟨_, rfl, ?_⟩))
  go_loopg [8] k2 (fun kq v8 w' => ∃ (d0 : List Int) (a0 : Int), v8 = .int .i64 a0 ∧ aa (bf.l2 kq d0 (wrap64 (k0 + 1)) f0 p0 q0 a0 = some r) ∧ aa (kq ≤ k2) ∧ aa (Kd.R (Kd.int .i64) 3 w' w.heap.size (fun _ => True) M0 d0) ∧ aa (Below w.heap.size w w'))
  case atStart => exact ⟨(B0), (p0), f0_, H', ⟨wa _⟩, ⟨rR_ b0.out⟩, ⟨hB_⟩⟩
  clear H'
  obtain ⟨d0, a0, rfl, HA, t1, b0, HB⟩ := hrel
  rcases gk with _ | k3
  ·exact absurd HA.out (by simp [bf.l2])
  have H := HA.out
  clear HA
  simp only [bf.l2] at H
  by_cases W0 : a0 < (wrap64 (p0 + f0))
  rotate_left
  ·rw [Aa W0] at H
   have c1 := ua W0
   clear W0
   have H' := aa.mk H
   clear H
   go_wp2
   go_roundg k3
   case measure => have := U0.out; have := V0.out; have := t1.out; omega
   case rel => exact ⟨(d0), ((wrap64 (k0 + 1))), (wrap64 (p0 + (wrap64 (2 * f0)))), f0_, f0_, H', ⟨by have := U0.out; have := V0.out; have := t1.out; omega⟩, ⟨rR_ b0.out⟩, ⟨hB_⟩⟩
  rw [za W0] at H
  have c1 := ta W0
  clear W0
  obtain ⟨e0, C0⟩ : ∃ j_ : Int, (wrap64 (a0 + f0)) = j_ := ⟨_, rfl⟩
  first | rw [C0] at H | simp only [C0] at H
  have F1 : (IntKind.i64.wrap (a0 + f0)) = e0 := (bB _).trans C0
  obtain ⟨T1, H⟩ := iD_ H
  obtain ⟨U1, H⟩ := iD_ H
  obtain ⟨V1, H⟩ := iD_ H
  obtain ⟨X1, H⟩ := iD_ H
  obtain ⟨y0, u0⟩ : ∃ y_ : List Int, y_ = (d0.set ((e0) : Int).toNat (Int.tmod (wrap64 ((wrap64 ((rd d0 a0) - (Int.tmod (wrap64 (q0 * (rd d0 (e0)))) 3329))) + 3329)) 3329)) := ⟨_, rfl⟩
  first | replace H := yb_ u0 H | rw [← u0] at H
  have K0 := aa.mk u0
  clear u0
  obtain ⟨d1, v0⟩ : ∃ y_ : List Int, y_ = (y0.set (a0 : Int).toNat (Int.tmod (wrap64 ((rd y0 a0) + (Int.tmod (wrap64 (q0 * (rd d0 (e0)))) 3329))) 3329)) := ⟨_, rfl⟩
  first | replace H := yb_ v0 H | rw [← v0] at H
  have e1 := aa.mk v0
  clear v0
  have H' := aa.mk H
  clear H
  obtain ⟨c2, f1, G1⟩ := Kd.R_slice b0.out
  subst G1
  have O0 : 0 ≤ ((e0) : Int) := oD_
  have P0 : (e0) < (d0.length : Int) := oD_
  obtain ⟨g1, H1, G0⟩ := Kd.at_int (Kd.R_reads' b0.out).2.2 (e0) O0 P0
  cases H1
  replace O0 := va O0
  replace P0 := va P0
  have Q0 : 0 ≤ (a0 : Int) := oD_
  have R0 : a0 < (d0.length : Int) := oD_
  obtain ⟨i1, I1, H0⟩ := Kd.at_int (Kd.R_reads' b0.out).2.2 a0 Q0 R0
  obtain rfl : g1 = i1 := (by injection I1)
  replace Q0 := va Q0
  replace R0 := va R0
  have J1 : 0 ≤ ((e0) : Int) := oD_
  have K1 : ((e0) : Int) < ((d0.length : Int) : Int) := oD_
  obtain ⟨go18, e2, j1, m1, gl18, cl18, HG18⟩ := Kd.R_form b0.out (by omega)
  (first | cases j1 | (injection j1 with ea_ en_ ec_; (first | subst ea_ | (injection ea_ with ea_; subst ea_)); subst ec_; clear en_))
  have n1 := aa.mk m1
  have GG18 := aa.mk HG18
  clear m1 gl18 HG18
  (first | simp only [bU] at G0 | skip)
  (first | simp only [bU] at H0 | skip)
  obtain ⟨L1, hf18_0⟩ := Kd.R_celln 0 b0.out ((e0) : Int) J1 K1
  replace J1 := va J1
  replace K1 := va K1
  have HP21 := Kd.R_putg b0.out ((e0) : Int) (Int.tmod (wrap64 ((wrap64 ((rd d0 a0) - (Int.tmod (wrap64 (q0 * (rd d0 (e0)))) 3329))) + 3329)) 3329)
  go_wp2_with (first | ((with_reducible refine cm (t := 3) (p := 61) rfl ?_); refine b9 (t := 3) (p := 61) (v := ?vo_w22) (w1 := (wr.setCell ⟨go18, ((e0) : Int).toNat, none⟩ (.int .i64 (Int.tmod (wrap64 ((wrap64 ((rd d0 a0) - (Int.tmod (wrap64 (q0 * (rd d0 (e0)))) 3329))) + 3329)) 3329)))) ?hg ?ho ?hn ?hr ?_; (case ho => rfl); (case hg => rfl); (case hn => rfl); (case hr => first | (go_simp; done) | (go_simp; rfl)); intro p1 hw; have hg : wr.grownBy p1 (some go18) := (by rw [hw]; exact HP21.2); have hp_ : Kd.R (Kd.int .i64) 3 p1 w.heap.size (fun _ => True) (.slice (some ⟨go18, 0, none⟩) d0.length f1) y0 := (by rw [hw, K0.out]; exact HP21.1); clear HP21; have n_ := b_ (hp_) <| c_ (by rw [hw]; exact co (HB.out) n1.out : Below w.heap.size w p1); clear b0 HB; obtain ⟨b0, HB⟩ := n_; clear hg hw hp_; have S0 : 0 ≤ (a0 : Int) := oD_; have T0 : a0 < (y0.length : Int) := (by have h_ : (a0 : Int) < ((d0.length : Int) : Int) := oD_; first | (have e_ := (Kd.R_reads' b0.out).1; omega) | simpa only [K0.out, List.length_set] using h_); have ql369 : ((a0 : Int) < ((d0.length : Int) : Int)) = True := va oD_; obtain ⟨q1, M1, j0⟩ := Kd.at_int (Kd.R_reads' b0.out).2.2 a0 S0 T0; obtain rfl : (⟨go18, 0, none⟩ : Addr) = q1 := (by injection M1); (first | simp only [bU] at j0 | simp only [mK] at j0 | simp only [Addr.add, Nat.zero_add] at j0 | skip); replace S0 := va S0; replace T0 := va T0; have N1 : 0 ≤ (a0 : Int) := oD_; have O1 : (a0 : Int) < ((d0.length : Int) : Int) := oD_; obtain ⟨P1, hf19_0⟩ := Kd.R_celln 0 b0.out (a0 : Int) N1 O1; replace N1 := va N1; replace O1 := va O1; obtain ⟨Y1, hz23_⟩ := Kd.R_celln 0 b0.out (a0 : Int) oD_ oD_; have HP23 := Kd.R_putg b0.out (a0 : Int) (Int.tmod (wrap64 ((rd y0 a0) + (Int.tmod (wrap64 (q0 * (rd d0 (e0)))) 3329))) 3329)) | ((with_reducible refine cm (t := 3) (p := 71) rfl ?_); refine b9 (t := 3) (p := 71) (v := ?vo_w24) (w1 := (p1.setCell ⟨go18, (a0 : Int).toNat, none⟩ (.int .i64 (Int.tmod (wrap64 ((rd y0 a0) + (Int.tmod (wrap64 (q0 * (rd d0 (e0)))) 3329))) 3329)))) ?hg ?ho ?hn ?hr ?_; (case ho => rfl); (case hg => rfl); (case hn => rfl); (case hr => first | (go_simp; done) | (go_simp; rfl)); intro Q1 hw; have hg : p1.grownBy Q1 (some go18) := (by rw [hw]; exact HP23.2); have hp_ : Kd.R (Kd.int .i64) 3 Q1 w.heap.size (fun _ => True) (.slice (some ⟨go18, 0, none⟩) d0.length f1) d1 := (by rw [hw, e1.out]; exact HP23.1); clear HP23; have n_ := b_ (hp_) <| c_ (by rw [hw]; exact co (HB.out) n1.out : Below w.heap.size w Q1); clear b0 HB; obtain ⟨b0, HB⟩ := n_; clear hg hw hp_))
  go_roundg k3
  case measure => have := U0.out; have := V0.out; have := t1.out; omega
  case rel => exact ⟨(d1), (wrap64 (a0 + 1)), f0_, H', ⟨by have := U0.out; have := V0.out; have := t1.out; omega⟩, ⟨rR_ b0.out⟩, ⟨hB_⟩⟩
 ·replace c3 := ya c3
  subst c3
  replace H := iF_ H
  obtain ⟨f2, x0⟩ : ∃ y_ : List Int, y_ = (([] : List Int)) := ⟨_, rfl⟩
  first | replace H := yb_ x0 H | rw [← x0] at H
  have L0 := aa.mk x0
  clear x0
  obtain rfl := sI H
  go_enter Tryz.func16, Tryz.ntmps16
  go_wp2_with (first | ((with_reducible refine ae (f := 47) rfl ?_); refine aq (some 11) rfl rfl Tryz.func47 (by kernel_rfl) rfl #[.slice A0 l0.length c0] rfl aM_ ?_; (with_reducible refine (ar.calls k _ _ l0 false _ ?side1 ?side2 A2.out).mono ?_); (case side1 => exact cR_ y1.out); (case side2 => exact S1.out); rintro e w' ⟨rfl, ⟨nd, rfl⟩⟩; refine ⟨_, rfl, ?_⟩) | ((with_reducible refine aI (N := 13) rfl ?_); refine Kd.R_lit (Kd.int .i64) _ 3 ?hg (N := 13) ?hd (xs := ([] : List Int)) (inner := []) (ok := fun _ => True) (okp := fun _ => True) ?hr ?hp (fun _ hk => hk) trivial (xa _ _) (wa _) (by simp) ?_; (case hd => rfl); (case hg => rfl); (case hr => first | (go_simp; done) | (go_simp; rfl)); (case hp => exact (br.none _ _)); intro g2 i2 D0 hb hg_ hnew_; clear hg_ hnew_; (first | rw [← L0.out] at D0 | (simp only [Int.reduceToNat] at D0; rw [← L0.out] at D0)); have n_ := b_ (Kd.R_lower D0 (ab (hB_))) <| c_ (ac (hB_) hb); clear HB; obtain ⟨r1, HB⟩ := n_; clear hb D0))
  go_ret
  exact ⟨_, f1_, rR_ r1.out, hB_⟩

/-! ### aE: function 18 -/
def aE.l0 : Nat → List Int → List Int → List Int → Int → Option (List Int)
 | 0, _, _, _, _ => none
 | k + 1, x0, x1, x5, x6 => if x6 < 256 then ((ar.f k x0).bind fun t393 => (if t393 = true then ((ar.f k x1).bind fun t394 => (if t394 = true then (if 0 ≤ x6 then (if x6 < (x0.length : Int) then (if x6 < (x1.length : Int) then (if x5.length < 17592186044416 then (aE.l0 k x0 x1 (x5 ++ [Int.tmod (wrap64 ((rd x0 x6) + (rd x1 x6))) 3329]) (wrap64 (x6 + 1))) else (none)) else (none)) else (none)) else (none)) else (some x5))) else (some x5))) else (some x5)
def aE.f (k : Nat) (l0 : List Int) (l1 : List Int) : Option (List Int) := aE.l0 k l0 l1 (([] : List Int)) 0
theorem aE.mono_l : ∀ k, (∀ y0 y1 y2 y3, LeO (aE.l0 k y0 y1 y2 y3) (aE.l0 (k + 1) y0 y1 y2 y3))
 | 0 => fun _ _ _ _ r h => by simp [aE.l0] at h
 | k + 1 => by
  have ih0 := aE.mono_l k
  intros; unfold aE.l0; exact o2_ ih0 ar.mono
theorem aE.mono : ∀ a0 a1 k, LeO (aE.f k a0 a1) (aE.f (k + 1) a0 a1) := by
 intro a0 a1 k
 have ih0 := aE.mono_l k
 unfold aE.f
 exact o2_ ih0 ar.mono
def aE.T5 : Bool × List (List Nat × List Nat) := (true, [([], []), ([], []), ([], []), ([1, 2], [1, 2]), ([3], [3]), ([], []), ([], []), ([5, 6], [5, 6]), ([7], [7]), ([4, 8], [4, 8]), ([9], [9]), ([10], [10]), ([0, 11], [0, 11]), ([12, 12, 0, 1, 2, 3, 4, 5, 6, 7, 8, 9, 10, 11, 12], [0, 12])])
def aE.B5 : List Nat := [0, 0, 0, 6, 14, 0, 0, 96, 224, 510, 1022, 2046, 4095, 8191]
theorem aE.tab5 : dW .any (eW Tryz.f18 5) = aE.T5 := by kernel_rfl
theorem aE.bits5 : cZ aE.T5.2 aE.B5 = true := by kernel_rfl
theorem aE.calls (k : Nat) (A0 : Option Addr) (c0 : Nat) (l0 : List Int) (A1 : Option Addr) (c1 : Nat) (l1 : List Int) (r : List Int) (w : World) (hr0 : Kd.C (Kd.int .i64) w A0 l0.length l0) (hc0 : l0.length ≤ c0) (hr1 : Kd.C (Kd.int .i64) w A1 l1.length l1) (hc1 : l1.length ≤ c1) (h : aE.f k l0 l1 = some r) :
  Calls Tryz.prog 18 #[.slice A0 l0.length c0, .slice A1 l1.length c1] w fun e w' => ∃ R0 : Value, e = .returned (R0) ∧ Kd.R (Kd.int .i64) 3 w' w.heap.size (fun _ => True) R0 r ∧ Below w.heap.size w w' := by
 have H0 := aa.mk hr0
 have I0 := aa.mk hc0
 clear hr0 hc0
 have J0 := aa.mk hr1
 have S0 := aa.mk hc1
 clear hr1 hc1
 have HB := aa.mk (xa w.heap.size w)
 delta aE.f at h
 have H := h
 clear h
 obtain ⟨K0, k0⟩ : ∃ y_ : List Int, y_ = (([] : List Int)) := ⟨_, rfl⟩
 first | replace H := yb_ k0 H | rw [← k0] at H
 have r0 := aa.mk k0
 clear k0
 have H' := aa.mk H
 clear H
 go_enter Tryz.func18, Tryz.ntmps18
 go_wp2_with (first | ((with_reducible refine aI (N := 7) rfl ?_); refine Kd.R_lit (Kd.int .i64) _ 3 ?hg (N := 7) ?hd (xs := ([] : List Int)) (inner := []) (ok := fun _ => True) (okp := fun _ => True) ?hr ?hp (fun _ hk => hk) trivial (xa _ _) (wa _) (by simp) ?_; (case hd => rfl); (case hg => rfl); (case hr => first | (go_simp; done) | (go_simp; rfl)); (case hp => exact (br.none _ _)); intro Y0 w3 y0 hb hg_ hnew_; clear hg_ hnew_; (first | rw [← r0.out] at y0 | (simp only [Int.reduceToNat] at y0; rw [← r0.out] at y0)); have n_ := b_ (Kd.R_lower y0 (ab (hB_))) <| c_ (ac (hB_) hb); clear HB; obtain ⟨B0, HB⟩ := n_; clear hb y0))
 go_loopg [5, 6] k (fun kq v5 v6 w' => ∃ (q0 : List Int) (d0 : Int), v6 = .int .i64 d0 ∧ aa (aE.l0 kq l0 l1 q0 d0 = some r) ∧ aa (kq ≤ k) ∧ aa (Kd.R (Kd.int .i64) 3 w' w.heap.size (fun _ => True) v5 q0) ∧ aa (Below w.heap.size w w'))
 case atStart => exact ⟨(K0), (0), f0_, H', ⟨wa _⟩, ⟨rR_ B0.out⟩, ⟨hB_⟩⟩
 clear H'
 obtain ⟨q0, d0, rfl, HA, T0, j0, HB⟩ := hrel
 rcases gk with _ | k1
 ·exact absurd HA.out (by simp [aE.l0])
 have H := HA.out
 clear HA
 simp only [aE.l0] at H
 by_cases c5 : d0 < 256
 rotate_left
 ·rw [Aa c5] at H
  have L0 := ua c5
  clear c5
  obtain rfl := sI H
  go_wp2
  go_ret
  exact ⟨_, f1_, rR_ j0.out, hB_⟩
 rw [za c5] at H
 have L0 := ta c5
 clear c5
 obtain ⟨M0, A6, H⟩ := bN_ H
 by_cases c7 : M0 = true
 ·subst c7
  replace H := iT_ H
  obtain ⟨N0, A8, H⟩ := bN_ H
  by_cases c9 : N0 = true
  ·subst c9
   replace H := iT_ H
   obtain ⟨U0, H⟩ := iD_ H
   obtain ⟨V0, H⟩ := iD_ H
   obtain ⟨W0, H⟩ := iD_ H
   obtain ⟨X0, H⟩ := iN_ H
   have C0 := aa.mk X0
   clear X0
   obtain ⟨O0, p0⟩ : ∃ y_ : List Int, y_ = (q0 ++ [Int.tmod (wrap64 ((rd l0 d0) + (rd l1 d0))) 3329]) := ⟨_, rfl⟩
   first | replace H := yb_ p0 H | rw [← p0] at H
   have D0 := aa.mk p0
   clear p0
   have H' := aa.mk H
   clear H
   try go_wp2_with (first | (go_at_call 47; (with_reducible refine (ar.calls k1 _ _ l0 true _ ?side1 ?side2 A6.out).mono ?_); (case side1 => exact cR_ (Kd.C_below H0.out HB.out)); (case side2 => exact I0.out); rintro e w' ⟨rfl, ⟨nd, rfl⟩⟩) | (go_at_call 47; (with_reducible refine (ar.calls k1 _ _ l1 true _ ?side1 ?side2 A8.out).mono ?_); (case side1 => exact cR_ (Kd.C_below J0.out (hB_))); (case side2 => exact S0.out); rintro e w' ⟨rfl, ⟨nd, rfl⟩⟩))
   (try (rw [cU wr]; generalize hq_ : World.drewN wr _ = wr; have n_ := b_ (show Kd.R (Kd.int .i64) 3 wr w.heap.size (fun _ => True) u5 q0 from by rw [← hq_]; exact (rR_ j0.out)) <| c_ (show Below w.heap.size w wr from by rw [← hq_]; exact (hB_)); clear j0 HB hq_; obtain ⟨j0, HB⟩ := n_))
   have n_ := b_ (Kd.R_drew j0.out) <| c_ (bX HB.out)
   clear j0 HB
   obtain ⟨j0, HB⟩ := n_
   have t0 : 0 ≤ (d0 : Int) := oD_
   have u0 : d0 < (l0.length : Int) := oD_
   obtain ⟨E0, P0, e0⟩ := Kd.at_int H0.out d0 t0 u0
   have a0 := e0
   cases P0
   replace e0 := (HB.out.cell (World.block_lt_of_cell? w _ e0)).trans e0
   replace t0 := va t0
   replace u0 := va u0
   have v0 : 0 ≤ (d0 : Int) := oD_
   have x0 : d0 < (l1.length : Int) := oD_
   obtain ⟨F0, Q0, f0⟩ := Kd.at_int J0.out d0 v0 x0
   have b0 := f0
   cases Q0
   replace f0 := (HB.out.cell (World.block_lt_of_cell? w _ f0)).trans f0
   replace v0 := va v0
   replace x0 := va x0
   refine dY (n := 14) (S := fun w' => w'.cell? (E0.add (d0).toNat) = some (.int .i64 (rd l0 d0)) ∧ w'.cell? (F0.add (d0).toNat) = some (.int .i64 (rd l1 d0))) (ds := []) (bb_ 14 0) (by kernel_rfl) rfl rfl ⟨((HB.out.cell (World.block_lt_of_cell? w _ a0)).trans a0), ((HB.out.cell (World.block_lt_of_cell? w _ b0)).trans b0)⟩ (fun hHeld => ?_); refine cM aE.tab5 aE.bits5 (fun HT_ HW_ => ?_)
   generalize wr.drew = b1 at j0 HB e0 f0 hHeld ⊢
   refine pS_ 0 20 (bb_ 14 1) HT_.out ?_
   refine pS_ 1 21 (bb_ 14 3) HT_.out ?_
   refine pS_ 2 22 (bb_ 14 7) HT_.out ?_
   refine pS_ 3 23 (bb_ 14 15) HT_.out ?_
   refine pS_ 5 25 (bb_ 14 47) HT_.out ?_
   refine pS_ 6 26 (bb_ 14 111) HT_.out ?_
   refine pS_ 7 27 (bb_ 14 239) HT_.out ?_
   refine tS_ 4 24 (bb_ 14 255) (bA HT_.out HW_.out (by kernel_rfl)) hHeld ?_
   refine tS_ 8 28 (bb_ 14 511) (bA HT_.out HW_.out (by kernel_rfl)) hHeld ?_
   refine pS_ 9 29 (bb_ 14 1023) HT_.out ?_
   refine pS_ 10 30 (bb_ 14 2047) HT_.out ?_
   refine fC (i := 11) (N := some 31) (bb_ 14 4095) rfl rfl (cC HT_.out (by kernel_rfl)) (by decide) (fun K hK => ?_)
   refine nI (w1 := ?_) (v := ?_) (by rfl) rfl ?_ ?_
   rotate_left 2
   ·go_simp
    constructor
    ·rfl
    ·rfl
   refine hK.out _ _ ⟨(World.cell?_alloc_lt _ _ _ (World.block_lt_of_cell? _ _ (((HB.out.cell (World.block_lt_of_cell? w _ a0)).trans a0)))).trans (((HB.out.cell (World.block_lt_of_cell? w _ a0)).trans a0)), (World.cell?_alloc_lt _ _ _ (World.block_lt_of_cell? _ _ (((HB.out.cell (World.block_lt_of_cell? w _ b0)).trans b0)))).trans (((HB.out.cell (World.block_lt_of_cell? w _ b0)).trans b0))⟩ (fun hHeld => ?_)
   clear hK K
   refine dV (a' := ?_) ?_ ?_
   rotate_left
   ·show Act.put _ (some 31) _ = _
    simp only [Act.put, List.setIfInBounds_toArray, List.set_cons_zero, List.set_cons_succ, bB, cJ]
    rfl
   refine fC (i := 12) (N := some 32) (bb_ 14 8191) rfl rfl (cC HT_.out (by kernel_rfl)) (by decide) (fun K hK => ?_)
   refine Kd.R_append_step (Kd.int .i64) (w0 := w) w.heap.size (by rfl) (.tmp 20) (.tmp 31) 38 3 (.int .i64 0) 8 rfl Tryz.underlying38 cS rfl (by decide) (by omega) u5 q0 (Int.tmod (wrap64 ((rd l0 d0) + (rd l1 d0))) 3329) [.int .i64 (Int.tmod (wrap64 ((rd l0 d0) + (rd l1 d0))) 3329)] (fun _ => True) (fun _ => False) rfl rfl ?aP (fun _ hk => hk.elim) ?aF ?aO ?aB ?aS ?aL ?_
   (case aP => exact rfl)
   (case aB => exact (hB_))
   (case aF => exact (fun _ _ => trivial))
   (case aO => exact (rR_ j0.out))
   (case aS => exact (ab (hB_)))
   (case aL => have := C0.out; omega)
   intro Z0 d1 ho hb hg hat
   rw [← D0.out] at ho
   have n_ := b_ (hb) <| c_ (ho)
   clear HB j0
   obtain ⟨HB, G0⟩ := n_
   clear ho hb hg hat
   refine hK.out _ _ ⟨((HB.out.cell (World.block_lt_of_cell? w _ a0)).trans a0), ((HB.out.cell (World.block_lt_of_cell? w _ b0)).trans b0)⟩ (fun hHeld => ?_)
   clear hK K
   refine dV (a' := ?_) ?_ ?_
   rotate_left
   ·show Act.put _ (some 32) _ = _
    simp only [Act.put, List.setIfInBounds_toArray, List.set_cons_zero, List.set_cons_succ, bB, cJ]
    rfl
   refine pS_ 13 5 (bb_ 14 16383) HT_.out ?_
   refine eT (dn HT_.out (by kernel_rfl)) ?_
   try go_wp2
   go_roundg k1
   case measure => have := T0.out; omega
   case rel => exact ⟨(O0), (wrap64 (d0 + 1)), f0_, H', ⟨by have := T0.out; omega⟩, ⟨rR_ G0.out⟩, ⟨hB_⟩⟩
  ·replace c9 := ya c9
   subst c9
   replace H := iF_ H
   obtain rfl := sI H
   go_wp2_with (first | (go_at_call 47; (with_reducible refine (ar.calls k1 _ _ l0 true _ ?side1 ?side2 A6.out).mono ?_); (case side1 => exact cR_ (Kd.C_below H0.out HB.out)); (case side2 => exact I0.out); rintro e w' ⟨rfl, ⟨nd, rfl⟩⟩) | (go_at_call 47; (with_reducible refine (ar.calls k1 _ _ l1 false _ ?side1 ?side2 A8.out).mono ?_); (case side1 => exact cR_ (Kd.C_below J0.out (hB_))); (case side2 => exact S0.out); rintro e w' ⟨rfl, ⟨nd, rfl⟩⟩))
   go_ret
   exact ⟨_, f1_, rR_ j0.out, hB_⟩
 ·replace c7 := ya c7
  subst c7
  replace H := iF_ H
  obtain rfl := sI H
  go_wp2_with (first | (go_at_call 47; (with_reducible refine (ar.calls k1 _ _ l0 false _ ?side1 ?side2 A6.out).mono ?_); (case side1 => exact cR_ (Kd.C_below H0.out HB.out)); (case side2 => exact I0.out); rintro e w' ⟨rfl, ⟨nd, rfl⟩⟩))
  go_ret
  exact ⟨_, f1_, rR_ j0.out, hB_⟩

end Go.Proofs.YtielligodgabiaaGreatDoor.P
