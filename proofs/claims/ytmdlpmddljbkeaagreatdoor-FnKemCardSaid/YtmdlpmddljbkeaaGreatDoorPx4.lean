-- printed texts of this session, regrouped
import Derived.Test.YtmdlpmddljbkeaaGreatDoorPx3
namespace Go.Proofs.YtmdlpmddljbkeaaGreatDoor.P
open Go.RowKit YtmdlpmddljbkeaaGreatDoorW.PrintWords YtmdlpmddljbkeaaGreatDoorW.PrintLast YtmdlpmddljbkeaaGreatDoorW.PrintMore
open Kd
attribute [local go_sem] d3 dW eG eI dD dC dZ dY
set_option linter.unusedVariables false
set_option linter.unusedSimpArgs false
set_option maxHeartbeats 8000000
set_option maxRecDepth 100000
mutual
def ab.l0 : Nat → List Int → List Int → Int → List Int → Int → Option (List Int)
 | 0, _, _, _, _, _ => none
 | k + 1, x0, x1, x2, x7, x8 => if x8 < 5 then (if 0 ≤ x8 then (if x8 < (x0.length : Int) then (if 0 ≤ (wrap64 (x8 + 5)) then (if (wrap64 (x8 + 5)) < (x0.length : Int) then (if 0 ≤ (wrap64 (x8 + 10)) then (if (wrap64 (x8 + 10)) < (x0.length : Int) then (if 0 ≤ (wrap64 (x8 + 15)) then (if (wrap64 (x8 + 15)) < (x0.length : Int) then (if 0 ≤ (wrap64 (x8 + 20)) then (if (wrap64 (x8 + 20)) < (x0.length : Int) then (if x8 < (x7.length : Int) then (ab.l0 k x0 x1 x2 (x7.set (x8 : Int).toNat (Go.bits .xor .u64 (Go.bits .xor .u64 (Go.bits .xor .u64 (Go.bits .xor .u64 (rd x0 x8) (rd x0 (wrap64 (x8 + 5)))) (rd x0 (wrap64 (x8 + 10)))) (rd x0 (wrap64 (x8 + 15)))) (rd x0 (wrap64 (x8 + 20))))) (wrap64 (x8 + 1))) else (none)) else (none)) else (none)) else (none)) else (none)) else (none)) else (none)) else (none)) else (none)) else (none)) else (none)) else (if 25 ≤ 35184372088832 then (ab.l1 k x0 x1 x2 x7 (List.replicate 25 0) 0) else (none))
def ab.l1 : Nat → List Int → List Int → Int → List Int → List Int → Int → Option (List Int)
 | 0, _, _, _, _, _, _ => none
 | k + 1, x0, x1, x2, x7, x9, x10 => if x10 < 5 then (if 0 ≤ (Int.tmod (wrap64 (x10 + 4)) 5) then (if (Int.tmod (wrap64 (x10 + 4)) 5) < (x7.length : Int) then (if 0 ≤ (Int.tmod (wrap64 (x10 + 1)) 5) then (if (Int.tmod (wrap64 (x10 + 1)) 5) < (x7.length : Int) then ((bw.f k (rd x7 (Int.tmod (wrap64 (x10 + 1)) 5)) 1).bind fun t459 => (ab.l2 k x0 x1 x2 x7 x9 x10 (Go.bits .xor .u64 (rd x7 (Int.tmod (wrap64 (x10 + 4)) 5)) t459) 0)) else (none)) else (none)) else (none)) else (none)) else (if 25 ≤ 35184372088832 then (ab.l3 k x2 x9 (List.replicate 25 0) 0) else (none))
def ab.l2 : Nat → List Int → List Int → Int → List Int → List Int → Int → Int → Int → Option (List Int)
 | 0, _, _, _, _, _, _, _, _ => none
 | k + 1, x0, x1, x2, x7, x9, x10, x11, x12 => if x12 < 5 then (if 0 ≤ (wrap64 (x10 + (wrap64 (5 * x12)))) then (if (wrap64 (x10 + (wrap64 (5 * x12)))) < (x0.length : Int) then (if (wrap64 (x10 + (wrap64 (5 * x12)))) < (x1.length : Int) then ((bw.f k (Go.bits .xor .u64 (rd x0 (wrap64 (x10 + (wrap64 (5 * x12))))) x11) (rd x1 (wrap64 (x10 + (wrap64 (5 * x12)))))).bind fun t462 => (if 0 ≤ (wrap64 (x12 + (wrap64 (5 * (Int.tmod (wrap64 ((wrap64 (2 * x10)) + (wrap64 (3 * x12)))) 5))))) then (if (wrap64 (x12 + (wrap64 (5 * (Int.tmod (wrap64 ((wrap64 (2 * x10)) + (wrap64 (3 * x12)))) 5))))) < (x9.length : Int) then (ab.l2 k x0 x1 x2 x7 (x9.set ((wrap64 (x12 + (wrap64 (5 * (Int.tmod (wrap64 ((wrap64 (2 * x10)) + (wrap64 (3 * x12)))) 5))))) : Int).toNat t462) x10 x11 (wrap64 (x12 + 1))) else (none)) else (none))) else (none)) else (none)) else (none)) else (ab.l1 k x0 x1 x2 x7 x9 (wrap64 (x10 + 1)))
def ab.l3 : Nat → Int → List Int → List Int → Int → Option (List Int)
 | 0, _, _, _, _ => none
 | k + 1, x2, x9, x13, x14 => if x14 < 5 then (ab.l4 k x2 x9 x13 x14 0) else (if 0 < (x13.length : Int) then (some (x13.set (0 : Int).toNat (Go.bits .xor .u64 (rd x13 0) x2))) else (none))
def ab.l4 : Nat → Int → List Int → List Int → Int → Int → Option (List Int)
 | 0, _, _, _, _, _ => none
 | k + 1, x2, x9, x13, x14, x15 => if x15 < 5 then (if 0 ≤ (wrap64 (x14 + (wrap64 (5 * x15)))) then (if (wrap64 (x14 + (wrap64 (5 * x15)))) < (x9.length : Int) then (if 0 ≤ (wrap64 ((Int.tmod (wrap64 (x14 + 1)) 5) + (wrap64 (5 * x15)))) then (if (wrap64 ((Int.tmod (wrap64 (x14 + 1)) 5) + (wrap64 (5 * x15)))) < (x9.length : Int) then (if 0 ≤ (wrap64 ((Int.tmod (wrap64 (x14 + 2)) 5) + (wrap64 (5 * x15)))) then (if (wrap64 ((Int.tmod (wrap64 (x14 + 2)) 5) + (wrap64 (5 * x15)))) < (x9.length : Int) then (if (wrap64 (x14 + (wrap64 (5 * x15)))) < (x13.length : Int) then (ab.l4 k x2 x9 (x13.set ((wrap64 (x14 + (wrap64 (5 * x15)))) : Int).toNat (Go.bits .xor .u64 (rd x9 (wrap64 (x14 + (wrap64 (5 * x15))))) (Go.bits .and .u64 (IntKind.u64.wrap (18446744073709551615 - (rd x9 (wrap64 ((Int.tmod (wrap64 (x14 + 1)) 5) + (wrap64 (5 * x15))))))) (rd x9 (wrap64 ((Int.tmod (wrap64 (x14 + 2)) 5) + (wrap64 (5 * x15)))))))) x14 (wrap64 (x15 + 1))) else (none)) else (none)) else (none)) else (none)) else (none)) else (none)) else (none)) else (ab.l3 k x2 x9 x13 (wrap64 (x14 + 1)))
end
def ab.f (k : Nat) (l0 : List Int) (l1 : List Int) (a2 : Int) : Option (List Int) := if 5 ≤ 35184372088832 then (ab.l0 k l0 l1 a2 (List.replicate 5 0) 0) else (none)
theorem ab.mono_l : ∀ k, (∀ y0 y1 y2 y3 y4, LeO (ab.l0 k y0 y1 y2 y3 y4) (ab.l0 (k + 1) y0 y1 y2 y3 y4)) ∧ (∀ y0 y1 y2 y3 y4 y5, LeO (ab.l1 k y0 y1 y2 y3 y4 y5) (ab.l1 (k + 1) y0 y1 y2 y3 y4 y5)) ∧ (∀ y0 y1 y2 y3 y4 y5 y6 y7, LeO (ab.l2 k y0 y1 y2 y3 y4 y5 y6 y7) (ab.l2 (k + 1) y0 y1 y2 y3 y4 y5 y6 y7)) ∧ (∀ y0 y1 y2 y3, LeO (ab.l3 k y0 y1 y2 y3) (ab.l3 (k + 1) y0 y1 y2 y3)) ∧ (∀ y0 y1 y2 y3 y4, LeO (ab.l4 k y0 y1 y2 y3 y4) (ab.l4 (k + 1) y0 y1 y2 y3 y4))
 | 0 => ⟨fun _ _ _ _ _ r h => by simp [ab.l0] at h, fun _ _ _ _ _ _ r h => by simp [ab.l1] at h, fun _ _ _ _ _ _ _ _ r h => by simp [ab.l2] at h, fun _ _ _ _ r h => by simp [ab.l3] at h, fun _ _ _ _ _ r h => by simp [ab.l4] at h⟩
 | k + 1 => by
  obtain ⟨ih0, ih1, ih2, ih3, ih4⟩ := ab.mono_l k
  refine ⟨?_, ?_, ?_, ?_, ?_⟩ <;> (intros; (first | unfold ab.l0 | unfold ab.l1 | unfold ab.l2 | unfold ab.l3 | unfold ab.l4); exact o6_ ih0 ih1 ih2 ih3 ih4 bw.mono)
theorem ab.mono : ∀ a0 a1 a2 k, LeO (ab.f k a0 a1 a2) (ab.f (k + 1) a0 a1 a2) := by
 intro a0 a1 a2 k
 obtain ⟨ih0, ih1, ih2, ih3, ih4⟩ := ab.mono_l k
 unfold ab.f
 exact o6_ ih0 ih1 ih2 ih3 ih4 bw.mono
def ab.T5 : Bool × List (List Nat × List Nat) := (true, [([], []), ([], []), ([], []), ([], []), ([2, 3], [2, 3]), ([4], [4]), ([], []), ([], []), ([7], [7]), ([6, 8], [6, 8]), ([9], [9]), ([5, 10], [5, 10]), ([], []), ([], []), ([13], [13]), ([12, 14], [12, 14]), ([15], [15]), ([11, 16], [11, 16]), ([], []), ([], []), ([19], [19]), ([18, 20], [18, 20]), ([21], [21]), ([17, 22], [17, 22]), ([], []), ([], []), ([25], [25]), ([24, 26], [24, 26]), ([27], [27]), ([23, 28], [23, 28]), ([0, 1, 0, 1, 2, 3, 4, 5, 6, 7, 8, 9, 10, 11, 12, 13, 14, 15, 16, 17, 18, 19, 20, 21, 22, 23, 24, 25, 26, 27, 28, 29], [0, 1]), ([30, 29, 0, 1, 2, 3, 4, 5, 6, 7, 8, 9, 10, 11, 12, 13, 14, 15, 16, 17, 18, 19, 20, 21, 22, 23, 24, 25, 26, 27, 28, 29], [29, 30])])
def ab.B5 : List Nat := [0, 0, 0, 0, 12, 28, 0, 0, 128, 448, 960, 2044, 0, 0, 8192, 28672, 61440, 131068, 0, 0, 524288, 1835008, 3932160, 8388604, 0, 0, 33554432, 117440512, 251658240, 536870908, 1073741823, 2147483647]
theorem ab.tab5 : eu .any (fu Tryz.f124 5) = ab.T5 := by kernel_rfl
theorem ab.bits5 : dd ab.T5.2 ab.B5 = true := by kernel_rfl
def ab.T10 : Bool × List (List Nat × List Nat) := (true, [([], []), ([], []), ([1], [1]), ([2], [2]), ([0, 3], [0, 3]), ([4], [4]), ([], []), ([], []), ([7], [7]), ([8], [8]), ([6, 9], [6, 9]), ([10], [10]), ([11], [11]), ([5, 12], [5, 12]), ([13, 12, 0, 1, 2, 3, 4, 5, 6, 7, 8, 9, 10, 11, 12, 13], [13])])
def ab.B10 : List Nat := [0, 0, 2, 6, 15, 31, 0, 0, 128, 384, 960, 1984, 4032, 8191, 16383]
theorem ab.tab10 : eu .any (fu Tryz.f124 10) = ab.T10 := by kernel_rfl
theorem ab.bits10 : dd ab.T10.2 ab.B10 = true := by kernel_rfl
def ab.T14 : Bool × List (List Nat × List Nat) := (true, [([], []), ([], []), ([], []), ([2], [2]), ([], []), ([4], [4]), ([3, 5], [3, 5]), ([6], [6]), ([7], [7]), ([1, 8], [1, 8]), ([], []), ([], []), ([], []), ([12], [12]), ([11, 13], [11, 13]), ([10, 14], [10, 14]), ([15], [15]), ([], []), ([16, 17], [16, 17]), ([], []), ([], []), ([], []), ([21], [21]), ([20, 22], [20, 22]), ([19, 23], [19, 23]), ([24], [24]), ([18, 25], [18, 25]), ([0, 9, 0, 1, 2, 3, 4, 5, 6, 7, 8, 9, 10, 11, 12, 13, 14, 15, 16, 17, 18, 19, 20, 21, 22, 23, 24, 25, 26], [0, 9]), ([27, 26, 26, 0, 1, 2, 3, 4, 5, 6, 7, 8, 9, 10, 11, 12, 13, 14, 15, 16, 17, 18, 19, 20, 21, 22, 23, 24, 25, 26], [26, 27])])
def ab.B14 : List Nat := [0, 0, 0, 4, 0, 16, 60, 124, 252, 510, 0, 0, 0, 4096, 14336, 31744, 64512, 0, 261120, 0, 0, 0, 2097152, 7340032, 16252928, 33030144, 67107840, 134217727, 268435455]
theorem ab.tab14 : eu .any (fu Tryz.f124 14) = ab.T14 := by kernel_rfl
theorem ab.bits14 : dd ab.T14.2 ab.B14 = true := by kernel_rfl
def ab.T22 : Bool × List (List Nat × List Nat) := (true, [([], []), ([], []), ([], []), ([2], [2]), ([1, 3], [1, 3]), ([], []), ([], []), ([], []), ([7], [7]), ([6, 8], [6, 8]), ([5, 9], [5, 9]), ([10], [10]), ([], []), ([], []), ([13], [13]), ([14], [14]), ([], []), ([16], [16]), ([15, 17], [15, 17]), ([12, 18], [12, 18]), ([19], [19]), ([20], [20]), ([], []), ([], []), ([23], [23]), ([24], [24]), ([], []), ([26], [26]), ([25, 27], [25, 27]), ([22, 28], [22, 28]), ([29], [29]), ([21, 30], [21, 30]), ([11, 31], [11, 31]), ([0, 4, 0, 1, 2, 3, 4, 5, 6, 7, 8, 9, 10, 11, 12, 13, 14, 15, 16, 17, 18, 19, 20, 21, 22, 23, 24, 25, 26, 27, 28, 29, 30, 31, 32], [0, 4]), ([33, 32, 0, 1, 2, 3, 4, 5, 6, 7, 8, 9, 10, 11, 12, 13, 14, 15, 16, 17, 18, 19, 20, 21, 22, 23, 24, 25, 26, 27, 28, 29, 30, 31, 32], [32, 33])])
def ab.B22 : List Nat := [0, 0, 0, 4, 14, 0, 0, 0, 128, 448, 992, 2016, 0, 0, 8192, 24576, 0, 65536, 253952, 520192, 1044480, 2093056, 0, 0, 8388608, 25165824, 0, 67108864, 260046848, 532676608, 1069547520, 2147479552, 4294967264, 8589934591, 17179869183]
theorem ab.tab22 : eu .any (fu Tryz.f124 22) = ab.T22 := by kernel_rfl
theorem ab.bits22 : dd ab.T22.2 ab.B22 = true := by kernel_rfl
theorem ab.calls (k : Nat) (A0 : Option Addr) (c0 : Nat) (l0 : List Int) (A1 : Option Addr) (c1 : Nat) (l1 : List Int) (a2 : Int) (r : List Int) (w : World) (hr0 : Kd.C (Kd.int .u64) w A0 l0.length l0) (hc0 : l0.length ≤ c0) (hr1 : Kd.C (Kd.int .i64) w A1 l1.length l1) (hc1 : l1.length ≤ c1) (h : ab.f k l0 l1 a2 = some r) :
  Calls Tryz.prog 124 #[.slice A0 l0.length c0, .slice A1 l1.length c1, .int .u64 a2] w fun e w' => ∃ V4 : Value, e = .returned (V4) ∧ Kd.R (Kd.int .u64) 107 w' w.heap.size (fun _ => True) V4 r ∧ Below w.heap.size w w' := by
 have P2 := c_ hr0
 have B6 := c_ hc0
 clear hr0 hc0
 have U5 := c_ hr1
 have C6 := c_ hc1
 clear hr1 hc1
 have HB := c_ (Da w.heap.size w)
 delta ab.f at h
 have H := h
 clear h
 obtain ⟨c4, H⟩ := iN_ H
 have V5 := Aa c4
 have W5 := ya c4
 clear c4
 obtain ⟨O3, X0⟩ : ∃ y_ : List Int, y_ = (List.replicate 5 0) := ⟨_, rfl⟩
 first | replace H := yb_ X0 H | rw [← X0] at H
 have V1 := c_ X0
 clear X0
 have H' := c_ H
 clear H
 go_enter Tryz.func124, Tryz.ntmps124
 go_wp2_with (first | ((refine cO (N := 16) rfl ?_); refine vu (Kd.int .u64) _ 107 rfl (N := 16) rfl 113 _ _ rfl 5 rfl rfl Tryz.underlying113 (.int .u64 0) 8 jy rfl (by decide) (by omega) 0 (ok := fun _ => True) (okp := fun _ => True) rfl (fun _ hk => hk) trivial (by omega) (by omega) (Da _ _) (Ca _) ?_; intro b2 w5 V2 hb hg_ hnew_; clear hg_ hnew_; (first | rw [← V1.o] at V2 | (simp only [Int.reduceToNat] at V2; rw [← V1.o] at V2)); obtain ⟨X2, HB⟩ := b_ (vb V2 (au (hB_))) <| sB_; clear hb V2))
 go_loopg [8] k (fun kq v8 w' => ∃ (k0 : List Int) (d0 : Int), v8 = .int .i64 d0 ∧ aa (ab.l0 kq l0 l1 a2 k0 d0 = some r) ∧ aa (kq ≤ k) ∧ aa (Kd.R (Kd.int .u64) 107 w' w.heap.size (fun _ => True) b2 k0) ∧ aa (Below w.heap.size w w'))
 case atStart => exact ⟨(O3), (0), f0_, H', ⟨Ca _⟩, ⟨rR_ X2.o⟩, ⟨hB_⟩⟩
 clear H'
 obtain ⟨k0, d0, rfl, HA, M1, b0, HB⟩ := hrel
 rcases gk with _ | k1
 ·exact absurd HA.o (by simp [ab.l0])
 have H := HA.o
 clear HA
 simp only [ab.l0] at H
 by_cases c7 : d0 < 5
 ·rw [Fa c7] at H
  have P3 := ya c7
  clear c7
  obtain ⟨X5, H⟩ := iD_ H
  obtain ⟨Y5, H⟩ := iD_ H
  obtain ⟨M0, C1⟩ : ∃ j_ : Int, (wrap64 (d0 + 5)) = j_ := ⟨_, rfl⟩
  first | rw [C1] at H | simp only [C1] at H
  have Q3 : (IntKind.i64.wrap (d0 + 5)) = M0 := (bq _).trans C1
  obtain ⟨W4, H⟩ := iD_ H
  obtain ⟨X4, H⟩ := iD_ H
  obtain ⟨N0, D1⟩ : ∃ j_ : Int, (wrap64 (d0 + 10)) = j_ := ⟨_, rfl⟩
  first | rw [D1] at H | simp only [D1] at H
  have R3 : (IntKind.i64.wrap (d0 + 10)) = N0 := (bq _).trans D1
  obtain ⟨Y4, H⟩ := iD_ H
  obtain ⟨Z4, H⟩ := iD_ H
  obtain ⟨O0, E1⟩ : ∃ j_ : Int, (wrap64 (d0 + 15)) = j_ := ⟨_, rfl⟩
  first | rw [E1] at H | simp only [E1] at H
  have S3 : (IntKind.i64.wrap (d0 + 15)) = O0 := (bq _).trans E1
  obtain ⟨c5, H⟩ := iD_ H
  obtain ⟨e5, H⟩ := iD_ H
  obtain ⟨P0, F1⟩ : ∃ j_ : Int, (wrap64 (d0 + 20)) = j_ := ⟨_, rfl⟩
  first | rw [F1] at H | simp only [F1] at H
  have T3 : (IntKind.i64.wrap (d0 + 20)) = P0 := (bq _).trans F1
  obtain ⟨f5, H⟩ := iD_ H
  obtain ⟨i5, H⟩ := iD_ H
  obtain ⟨n5, H⟩ := iD_ H
  obtain ⟨U3, Y0⟩ : ∃ y_ : List Int, y_ = (k0.set (d0 : Int).toNat (Go.bits .xor .u64 (Go.bits .xor .u64 (Go.bits .xor .u64 (Go.bits .xor .u64 (rd l0 d0) (rd l0 (M0))) (rd l0 (N0))) (rd l0 (O0))) (rd l0 (P0)))) := ⟨_, rfl⟩
  first | replace H := yb_ Y0 H | rw [← Y0] at H
  have Y2 := c_ Y0
  clear Y0
  have H' := c_ H
  clear H
  try go_wp2
  obtain ⟨b0, HB⟩ := b_ (vl b0.o) <| c_ (bx HB.o)
  have c2 : 0 ≤ (d0 : Int) := oD_
  have f2 : d0 < (l0.length : Int) := oD_
  obtain ⟨y0, V3, B0⟩ := uZ P2.o d0 c2 f2
  have N1 := B0
  cases V3
  replace B0 := hc_ B0
  replace c2 := Aa c2
  replace f2 := Aa f2
  have g2 : 0 ≤ ((M0) : Int) := oD_
  have i2 : (M0) < (l0.length : Int) := oD_
  obtain ⟨Z2, W3, C0⟩ := uZ P2.o (M0) g2 i2
  have O1 := C0
  obtain rfl : y0 = Z2 := (by injection W3)
  replace C0 := hc_ C0
  replace g2 := Aa g2
  replace i2 := Aa i2
  have j2 : 0 ≤ ((N0) : Int) := oD_
  have m2 : (N0) < (l0.length : Int) := oD_
  obtain ⟨b3, X3, D0⟩ := uZ P2.o (N0) j2 m2
  have P1 := D0
  obtain rfl : y0 = b3 := (by injection X3)
  replace D0 := hc_ D0
  replace j2 := Aa j2
  replace m2 := Aa m2
  have n2 : 0 ≤ ((O0) : Int) := oD_
  have p2 : (O0) < (l0.length : Int) := oD_
  obtain ⟨c3, Y3, E0⟩ := uZ P2.o (O0) n2 p2
  have Q1 := E0
  obtain rfl : y0 = c3 := (by injection Y3)
  replace E0 := hc_ E0
  replace n2 := Aa n2
  replace p2 := Aa p2
  have q2 : 0 ≤ ((P0) : Int) := oD_
  have r2 : (P0) < (l0.length : Int) := oD_
  obtain ⟨e3, Z3, F0⟩ := uZ P2.o (P0) q2 r2
  have R1 := F0
  obtain rfl : y0 = e3 := (by injection Z3)
  replace F0 := hc_ F0
  replace q2 := Aa q2
  replace r2 := Aa r2
  have b4 : 0 ≤ (d0 : Int) := oD_
  have e4 : (d0 : Int) < ((k0.length : Int) : Int) := oD_
  obtain ⟨go23, Z5, f3, g3, gl23, cl23, HG23⟩ := vq b0.o (by omega)
  (first | cases f3 | (injection f3 with ea_ en_ ec_; (first | subst ea_ | (injection ea_ with ea_; subst ea_)); subst ec_; clear en_))
  have f4 := c_ g3
  have GG23 := c_ HG23
  clear g3 gl23 HG23
  obtain ⟨t2, hf23_0⟩ := vc 0 b0.o (d0 : Int) b4 e4
  replace b4 := Aa b4
  replace e4 := Aa e4
  have HP25 := vI b0.o (d0 : Int) (Go.bits .xor .u64 (Go.bits .xor .u64 (Go.bits .xor .u64 (Go.bits .xor .u64 (rd l0 d0) (rd l0 (M0))) (rd l0 (N0))) (rd l0 (O0))) (rd l0 (P0)))
  rw [← Y2.o] at HP25
  have HQ25 := c_ HP25
  clear HP25
  refine ej (n := 32) (S := fun w' => w'.cell? (y0.add (d0).toNat) = some (.int .u64 (rd l0 d0)) ∧ w'.cell? (y0.add ((M0)).toNat) = some (.int .u64 (rd l0 (M0))) ∧ w'.cell? (y0.add ((N0)).toNat) = some (.int .u64 (rd l0 (N0))) ∧ w'.cell? (y0.add ((O0)).toNat) = some (.int .u64 (rd l0 (O0))) ∧ w'.cell? (y0.add ((P0)).toNat) = some (.int .u64 (rd l0 (P0)))) (ds := [31]) (bb_ 32 0) (by kernel_rfl) rfl rfl ⟨(hc_ N1), (hc_ O1), (hc_ P1), (hc_ Q1), (hc_ R1)⟩ (fun hHeld => ?_); refine cK ab.tab5 ab.bits5 (fun HT_ HW_ => ?_)
  generalize wr.drew = D6 at b0 HB GG23 HQ25 hf23_0 t2 B0 C0 D0 E0 F0 hHeld ⊢
  refine pT_ 0 21 32 1 ?_
  refine pT_ 1 22 32 3 ?_
  refine pT_ 2 23 32 7 ?_
  refine pT_ 3 24 32 15 ?_
  refine pT_ 4 25 32 31 ?_
  refine pT_ 6 27 32 95 ?_
  refine pT_ 7 28 32 223 ?_
  refine pT_ 8 29 32 479 ?_
  refine pT_ 9 30 32 991 ?_
  refine pT_ 12 33 32 5087 ?_
  refine pT_ 13 34 32 13279 ?_
  refine pT_ 14 35 32 29663 ?_
  refine pT_ 15 36 32 62431 ?_
  refine pT_ 18 39 32 324575 ?_
  refine pT_ 19 40 32 848863 ?_
  refine pT_ 20 41 32 1897439 ?_
  refine pT_ 21 42 32 3994591 ?_
  refine pT_ 24 45 32 20771807 ?_
  refine pT_ 25 46 32 54326239 ?_
  refine pT_ 26 47 32 121435103 ?_
  refine pT_ 27 48 32 255652831 ?_
  refine tS_ 5 26 (bb_ 32 255652863) (bA HT_.o HW_.o (by kernel_rfl)) hHeld ?_
  refine tS_ 10 31 (bb_ 32 255653887) (bA HT_.o HW_.o (by kernel_rfl)) hHeld ?_
  refine pT_ 11 32 32 255655935 ?_
  refine tS_ 16 37 (bb_ 32 255721471) (bA HT_.o HW_.o (by kernel_rfl)) hHeld ?_
  refine pT_ 17 38 32 255852543 ?_
  refine tS_ 22 43 (bb_ 32 260046847) (bA HT_.o HW_.o (by kernel_rfl)) hHeld ?_
  refine pT_ 23 44 32 268435455 ?_
  refine tS_ 28 49 (bb_ 32 536870911) (bA HT_.o HW_.o (by kernel_rfl)) hHeld ?_
  refine pT_ 29 50 32 1073741823 ?_
  refine pT_ 30 51 32 2147483647 ?_
  refine gR (i := 31) (N := none) (bb_ 32 4294967295) rfl rfl (cz HT_.o (by kernel_rfl)) (by decide) (fun K hK => ?_)
  refine jb (w1 := ?_) (by rfl) rfl ?_ ?_
  rotate_left
  ·go_simp
   rfl
  refine hK _ _ ?_
  clear hK K
  refine fq (dA HT_.o (by kernel_rfl)) ?_
  try go_wp2
  go_roundg k1
  case measure => have := M1.o; omega
  case rel => exact ⟨(U3), (wrap64 (d0 + 1)), f0_, H', ⟨by have := M1.o; omega⟩, ⟨rR_ HQ25.o⟩, ⟨hS_ f4.o⟩⟩
 rw [Ga c7] at H
 have P3 := za c7
 clear c7
 obtain ⟨g4, H⟩ := iN_ H
 have p5 := Aa g4
 have q5 := ya g4
 clear g4
 obtain ⟨i4, Z0⟩ : ∃ y_ : List Int, y_ = (List.replicate 25 0) := ⟨_, rfl⟩
 first | replace H := yb_ Z0 H | rw [← Z0] at H
 have X1 := c_ Z0
 clear Z0
 have H' := c_ H
 clear H
 go_wp2_with (first | ((refine cO (N := 52) rfl ?_); refine vu (Kd.int .u64) _ 107 rfl (N := 52) rfl 113 _ _ rfl 25 rfl rfl Tryz.underlying113 (.int .u64 0) 8 jy rfl (by decide) (by omega) 0 (ok := fun _ => True) (okp := fun _ => True) rfl (fun _ hk => hk) trivial (by omega) (by omega) (Da _ _) (Ca _) ?_; intro Q0 E6 z1 hb hg_ hnew_; clear hg_ hnew_; (first | rw [← X1.o] at z1 | (simp only [Int.reduceToNat] at z1; rw [← X1.o] at z1)); obtain ⟨b0, i3, HB⟩ := b_ (vj (rR_ b0.o) (vg z1) hb) <| b_ (vb (vp z1 (vE (rR_ b0.o))) (au (hB_))) <| sB_; clear hb z1))
 go_loopg [10] k1 (fun kq b6 w' => ∃ (f0 : List Int) (n0 : Int), b6 = .int .i64 n0 ∧ aa (ab.l1 kq l0 l1 a2 k0 f0 n0 = some r) ∧ aa (kq ≤ k1) ∧ aa (Kd.R (Kd.int .u64) 107 w' w.heap.size (fun k_ => some k_ ≠ (Q0 : Value).ownBlock) b2 k0) ∧ aa (Kd.R (Kd.int .u64) 107 w' w.heap.size (fun k_ => some k_ ≠ (b2 : Value).ownBlock) Q0 f0) ∧ aa (Below w.heap.size w w'))
 case atStart => exact ⟨(i4), (0), f0_, H', ⟨Ca _⟩, ⟨by refine kR_ ?_; exact va b0.o (fun _ hk => hk.2)⟩, ⟨by refine kR_ ?_; exact va i3.o (fun _ hk => hk.2)⟩, ⟨hB_⟩⟩
 clear H'
 obtain ⟨f0, n0, rfl, HA, Y1, b0, a0, HB⟩ := hrel
 rcases gk with _ | k2
 ·exact absurd HA.o (by simp [ab.l1])
 have H := HA.o
 clear HA
 simp only [ab.l1] at H
 by_cases Q2 : n0 < 5
 ·rw [Fa Q2] at H
  have m3 := ya Q2
  clear Q2
  obtain ⟨R0, G1⟩ : ∃ j_ : Int, (Int.tmod (wrap64 (n0 + 4)) 5) = j_ := ⟨_, rfl⟩
  first | rw [G1] at H | simp only [G1] at H
  obtain ⟨v5, H⟩ := iD_ H
  obtain ⟨y5, H⟩ := iD_ H
  obtain ⟨U0, H1⟩ : ∃ j_ : Int, (Int.tmod (wrap64 (n0 + 1)) 5) = j_ := ⟨_, rfl⟩
  first | rw [H1] at H | simp only [H1] at H
  obtain ⟨z5, H⟩ := iD_ H
  obtain ⟨A5, H⟩ := iD_ H
  obtain ⟨S1, c6, H⟩ := bN_ H
  have H' := c_ H
  clear H
  try go_wp2
  obtain ⟨b0, a0, HB⟩ := b_ (vl b0.o) <| b_ (vl a0.o) <| c_ (bx HB.o)
  obtain ⟨e6, n3, p3⟩ := uY b0.o
  (first | subst p3 | (injection p3 with f1_ f2_ f3_; have f4_ := f1_.symm; have f5_ := f3_.symm; clear f1_ f2_ f3_; subst f4_; subst f5_))
  have v2 : 0 ≤ ((R0) : Int) := oD_
  have y2 : (R0) < (k0.length : Int) := oD_
  obtain ⟨S0, n4, b1⟩ := uZ (uX b0.o).2.2 (R0) v2 y2
  cases n4
  replace v2 := Aa v2
  replace y2 := Aa y2
  have z2 : 0 ≤ ((U0) : Int) := oD_
  have A2 : (U0) < (k0.length : Int) := oD_
  obtain ⟨q3, q4, e1⟩ := uZ (uX b0.o).2.2 (U0) z2 A2
  obtain rfl : S0 = q3 := (by injection q4)
  replace z2 := Aa z2
  replace A2 := Aa A2
  refine ej (n := 15) (S := fun w' => w'.cell? (S0.add ((R0)).toNat) = some (.int .u64 (rd k0 (R0))) ∧ w'.cell? (S0.add ((U0)).toNat) = some (.int .u64 (rd k0 (U0)))) (ds := []) (bb_ 15 0) (by kernel_rfl) rfl rfl ⟨b1, e1⟩ (fun hHeld => ?_); refine cK ab.tab10 ab.bits10 (fun HT_ HW_ => ?_)
  generalize wr.drew = F6 at b0 a0 HB b1 e1 hHeld ⊢
  refine pT_ 0 57 15 1 ?_
  refine pT_ 1 58 15 3 ?_
  refine pT_ 2 59 15 7 ?_
  refine pT_ 3 60 15 15 ?_
  refine pT_ 4 61 15 31 ?_
  refine pT_ 6 63 15 95 ?_
  refine pT_ 7 64 15 223 ?_
  refine pT_ 8 65 15 479 ?_
  refine pT_ 9 66 15 991 ?_
  refine pT_ 10 67 15 2015 ?_
  refine tS_ 5 62 (bb_ 15 2047) (bA HT_.o HW_.o (by kernel_rfl)) hHeld ?_
  refine tS_ 11 68 (bb_ 15 4095) (bA HT_.o HW_.o (by kernel_rfl)) hHeld ?_
  refine fB (i := 12) (N := some 69) (bb_ 15 8191) rfl rfl (cz HT_.o (by kernel_rfl)) (by decide) (fun K hK => ?_)
  refine fj Tryz.func127 (by kernel_rfl) rfl #[.int .u64 (rd k0 (U0)), .int .i64 1] (by rfl) rfl rfl (by (try simp only [List.map_toArray, List.map_cons, List.map_nil]); first | done | (simp only [H1]; rfl) | rfl | (simp only [List.length_drop, List.length_take]; rfl)) ?_
  with_reducible refine (bw.calls k2 (rd k0 (U0)) 1 S1 _ c6.o).mono ?_
  rintro e w' ⟨rfl, ⟨nd, rfl⟩⟩
  refine ⟨_, rfl, ?_⟩
  refine hK _ _ ⟨hHeld.1, hHeld.2⟩ (fun hHeld => ?_)
  clear hK K
  refine dH (a' := ?_) ?_ ?_
  rotate_left
  ·show Act.put _ (some 69) _ = _
   simp only [Act.put, List.setIfInBounds_toArray, List.set_cons_zero, List.set_cons_succ, bq, ct]
   rfl
  refine pT_ 13 70 15 16383 ?_
  refine pT_ 14 11 15 32767 ?_
  refine fq (dA HT_.o (by kernel_rfl)) ?_
  try go_wp2
  go_loopg [12] k2 (fun kq f6 w' => ∃ (B1 : List Int) (q0 : Int), f6 = .int .i64 q0 ∧ aa (ab.l2 kq l0 l1 a2 k0 B1 n0 (Go.bits .xor .u64 (rd k0 (R0)) S1) q0 = some r) ∧ aa (kq ≤ k2) ∧ aa (Kd.R (Kd.int .u64) 107 w' w.heap.size (fun k_ => some k_ ≠ (Q0 : Value).ownBlock) (.slice (some S0) k0.length n3) k0) ∧ aa (Kd.R (Kd.int .u64) 107 w' w.heap.size (fun k_ => some k_ ≠ ((.slice (some S0) k0.length n3) : Value).ownBlock) Q0 B1) ∧ aa (Below w.heap.size w w'))
  case atStart => exact ⟨(f0), (0), f0_, H', ⟨Ca _⟩, ⟨rR_ b0.o⟩, ⟨rR_ a0.o⟩, ⟨hB_⟩⟩
  clear H'
  obtain ⟨B1, q0, rfl, HA, T1, b0, a0, HB⟩ := hrel
  rcases gk with _ | k3
  ·exact absurd HA.o (by simp [ab.l2])
  have H := HA.o
  clear HA
  simp only [ab.l2] at H
  by_cases R2 : q0 < 5
  rotate_left
  ·rw [Ga R2] at H
   have r3 := za R2
   clear R2
   have H' := c_ H
   clear H
   go_wp2
   go_roundg k3
   case measure => have := M1.o; have := Y1.o; have := T1.o; omega
   case rel => exact ⟨(B1), (wrap64 (n0 + 1)), f0_, H', ⟨by have := M1.o; have := Y1.o; have := T1.o; omega⟩, ⟨rR_ b0.o⟩, ⟨rR_ a0.o⟩, ⟨hB_⟩⟩
  rw [Fa R2] at H
  have r3 := ya R2
  clear R2
  obtain ⟨v0, f1⟩ : ∃ j_ : Int, (wrap64 (n0 + (wrap64 (5 * q0)))) = j_ := ⟨_, rfl⟩
  first | rw [f1] at H | simp only [f1] at H
  have t4 : (IntKind.i64.wrap (n0 + (wrap64 (5 * q0)))) = v0 := (bq _).trans f1
  obtain ⟨B5, H⟩ := iD_ H
  obtain ⟨C5, H⟩ := iD_ H
  obtain ⟨D5, H⟩ := iD_ H
  obtain ⟨B2, E5, H⟩ := bN_ H
  obtain ⟨V0, g1⟩ : ∃ j_ : Int, (wrap64 (q0 + (wrap64 (5 * (Int.tmod (wrap64 ((wrap64 (2 * n0)) + (wrap64 (3 * q0)))) 5))))) = j_ := ⟨_, rfl⟩
  first | rw [g1] at H | simp only [g1] at H
  (try rw [g1] at E5)
  have v4 : (IntKind.i64.wrap (q0 + (wrap64 (5 * (Int.tmod (wrap64 ((wrap64 (2 * n0)) + (wrap64 (3 * q0)))) 5))))) = V0 := (bq _).trans g1
  obtain ⟨F5, H⟩ := iD_ H
  obtain ⟨G5, H⟩ := iD_ H
  obtain ⟨w4, i1⟩ : ∃ y_ : List Int, y_ = (B1.set ((V0) : Int).toNat B2) := ⟨_, rfl⟩
  first | replace H := yb_ i1 H | rw [← i1] at H
  have t3 := c_ i1
  clear i1
  have H' := c_ H
  clear H
  try go_wp2
  obtain ⟨b0, a0, HB⟩ := b_ (vl b0.o) <| b_ (vl a0.o) <| c_ (bx HB.o)
  have C2 : 0 ≤ ((v0) : Int) := oD_
  have D2 : (v0) < (l0.length : Int) := oD_
  obtain ⟨v3, y4, G0⟩ := uZ P2.o (v0) C2 D2
  have j1 := G0
  cases y4
  replace G0 := hc_ G0
  replace C2 := Aa C2
  replace D2 := Aa D2
  have E2 : 0 ≤ ((v0) : Int) := oD_
  have F2 : (v0) < (l1.length : Int) := oD_
  obtain ⟨w3, z4, H0⟩ := uZ U5.o (v0) E2 F2
  have m1 := H0
  cases z4
  replace H0 := hc_ H0
  replace E2 := Aa E2
  replace F2 := Aa F2
  refine ej (n := 29) (S := fun w' => w'.cell? (v3.add ((v0)).toNat) = some (.int .u64 (rd l0 (v0))) ∧ w'.cell? (w3.add ((v0)).toNat) = some (.int .i64 (rd l1 (v0)))) (ds := [28]) (bb_ 29 0) (by kernel_rfl) rfl rfl ⟨(hc_ j1), (hc_ m1)⟩ (fun hHeld => ?_); refine cK ab.tab14 ab.bits14 (fun HT_ HW_ => ?_)
  generalize wr.drew = G6 at b0 a0 HB G0 H0 hHeld ⊢
  refine pT_ 0 75 29 1 ?_
  refine pT_ 1 76 29 3 ?_
  refine pT_ 2 77 29 7 ?_
  refine pT_ 3 78 29 15 ?_
  refine pT_ 4 79 29 31 ?_
  refine pT_ 5 80 29 63 ?_
  refine pT_ 6 81 29 127 ?_
  refine pT_ 7 82 29 255 ?_
  refine pT_ 8 83 29 511 ?_
  refine pT_ 9 84 29 1023 ?_
  refine pT_ 10 85 29 2047 ?_
  refine pT_ 11 86 29 4095 ?_
  refine pT_ 12 87 29 8191 ?_
  refine pT_ 13 88 29 16383 ?_
  refine pT_ 14 89 29 32767 ?_
  refine pT_ 15 90 29 65535 ?_
  refine pT_ 17 92 29 196607 ?_
  refine pT_ 19 94 29 720895 ?_
  refine pT_ 20 95 29 1769471 ?_
  refine pT_ 21 96 29 3866623 ?_
  refine pT_ 22 97 29 8060927 ?_
  refine pT_ 23 98 29 16449535 ?_
  refine pT_ 24 99 29 33226751 ?_
  refine tS_ 16 91 (bb_ 29 33292287) (bA HT_.o HW_.o (by kernel_rfl)) hHeld ?_
  refine pT_ 18 93 29 33554431 ?_
  refine tS_ 25 100 (bb_ 29 67108863) (bA HT_.o HW_.o (by kernel_rfl)) hHeld ?_
  refine fB (i := 26) (N := some 101) (bb_ 29 134217727) rfl rfl (cz HT_.o (by kernel_rfl)) (by decide) (fun K hK => ?_)
  refine fj Tryz.func127 (by kernel_rfl) rfl #[.int .u64 (Go.bits .xor .u64 (rd l0 (v0)) (Go.bits .xor .u64 (rd k0 (R0)) S1)), .int .i64 (rd l1 (v0))] (by rfl) rfl rfl (by (try simp only [List.map_toArray, List.map_cons, List.map_nil]); first | done | (simp only [G1, f1]; rfl) | rfl | (simp only [List.length_drop, List.length_take]; rfl)) ?_
  with_reducible refine (bw.calls k3 (Go.bits .xor .u64 (rd l0 (v0)) (Go.bits .xor .u64 (rd k0 (R0)) S1)) (rd l1 (v0)) B2 _ E5.o).mono ?_
  rintro e w' ⟨rfl, ⟨nd, rfl⟩⟩
  refine ⟨_, rfl, ?_⟩
  have A4 : 0 ≤ ((V0) : Int) := oD_
  have B4 : ((V0) : Int) < ((B1.length : Int) : Int) := oD_
  obtain ⟨go48, g6, y3, z3, gl48, cl48, HG48⟩ := vq a0.o (by omega)
  (first | cases y3 | (injection y3 with ea_ en_ ec_; (first | subst ea_ | (injection ea_ with ea_; subst ea_)); subst ec_; clear en_))
  have C4 := c_ z3
  have GG48 := c_ HG48
  clear z3 gl48 HG48
  obtain ⟨D4, hf48_0⟩ := vc 0 a0.o ((V0) : Int) A4 B4
  replace A4 := Aa A4
  replace B4 := Aa B4
  have HP50 := vI a0.o ((V0) : Int) B2
  rw [← t3.o] at HP50
  have HQ50 := c_ HP50
  clear HP50
  refine hK _ _ ⟨(hc_ j1), (hc_ m1)⟩ (fun hHeld => ?_)
  clear hK K
  refine dH (a' := ?_) ?_ ?_
  rotate_left
  ·show Act.put _ (some 101) _ = _
   simp only [Act.put, List.setIfInBounds_toArray, List.set_cons_zero, List.set_cons_succ, bq, ct]
   rfl
  refine pT_ 27 102 29 268435455 ?_
  refine gR (i := 28) (N := none) (bb_ 29 536870911) rfl rfl (cz HT_.o (by kernel_rfl)) (by decide) (fun K hK => ?_)
  refine jb (w1 := ?_) (by rfl) rfl ?_ ?_
  rotate_left
  ·go_simp
   rfl
  refine hK _ _ ?_
  clear hK K
  refine fq (dA HT_.o (by kernel_rfl)) ?_
  try go_wp2
  go_roundg k3
  case measure => have := M1.o; have := Y1.o; have := T1.o; omega
  case rel => exact ⟨(w4), (wrap64 (q0 + 1)), f0_, H', ⟨by have := M1.o; have := Y1.o; have := T1.o; omega⟩, ⟨by refine kR_ ?_; exact va (vt (p := ⟨go48, ((V0) : Int).toNat, none⟩) (va b0.o (fun k_ hk => (⟨hk, fun e_ => hk (by rw [e_]; rfl)⟩ : _ ∧ k_ ≠ go48))) (fun _ hk => hk.2) _) (fun _ hk => hk.1)⟩, ⟨rR_ HQ50.o⟩, ⟨hS_ C4.o⟩⟩
 rw [Ga Q2] at H
 have m3 := za Q2
 clear Q2
 obtain ⟨E4, H⟩ := iN_ H
 have H5 := Aa E4
 have I5 := ya E4
 clear E4
 obtain ⟨F4, n1⟩ : ∃ y_ : List Int, y_ = (List.replicate 25 0) := ⟨_, rfl⟩
 first | replace H := yb_ n1 H | rw [← n1] at H
 have Z1 := c_ n1
 clear n1
 have H' := c_ H
 clear H
 go_wp2_with (first | ((refine cO (N := 103) rfl ?_); refine vu (Kd.int .u64) _ 107 rfl (N := 103) rfl 113 _ _ rfl 25 rfl rfl Tryz.underlying113 (.int .u64 0) 8 jy rfl (by decide) (by omega) 0 (ok := fun _ => True) (okp := fun _ => True) rfl (fun _ hk => hk) trivial (by omega) (by omega) (Da _ _) (Ca _) ?_; intro U1 H6 W0 hb hg_ hnew_; clear hg_ hnew_; (first | rw [← Z1.o] at W0 | (simp only [Int.reduceToNat] at W0; rw [← Z1.o] at W0)); obtain ⟨b0, a0, A3, HB⟩ := b_ (vj (rR_ b0.o) (vg W0) hb) <| b_ (vj (rR_ a0.o) (vg W0) hb) <| b_ (vb (vp (vp W0 (vE (rR_ b0.o))) (vE (rR_ a0.o))) (au (hB_))) <| sB_; clear hb W0))
 go_loopg [14] k2 (fun kq i6 w' => ∃ (j0 : List Int) (p0 : Int), i6 = .int .i64 p0 ∧ aa (ab.l3 kq a2 f0 j0 p0 = some r) ∧ aa (kq ≤ k2) ∧ aa (Kd.R (Kd.int .u64) 107 w' w.heap.size (fun k_ => some k_ ≠ (U1 : Value).ownBlock) Q0 f0) ∧ aa (Kd.R (Kd.int .u64) 107 w' w.heap.size (fun k_ => some k_ ≠ (Q0 : Value).ownBlock) U1 j0) ∧ aa (Below w.heap.size w w'))
 case atStart => exact ⟨(F4), (0), f0_, H', ⟨Ca _⟩, ⟨by refine kR_ ?_; exact va a0.o (fun _ hk => hk.2)⟩, ⟨by refine kR_ ?_; exact va A3.o (fun _ hk => hk.2)⟩, ⟨hB_⟩⟩
 clear H'
 obtain ⟨j0, p0, rfl, HA, T1, a0, e0, HB⟩ := hrel
 rcases gk with _ | k3
 ·exact absurd HA.o (by simp [ab.l3])
 have H := HA.o
 clear HA
 simp only [ab.l3] at H
 by_cases T2 : p0 < 5
 rotate_left
 ·rw [Ga T2] at H
  have B3 := za T2
  clear T2
  obtain ⟨J5, H⟩ := iN_ H
  have K5 := ya J5
  have L5 : decide (0 < j0.length) = true := ya (by omega)
  clear J5
  obtain ⟨n6, p1⟩ : ∃ y_ : List Int, y_ = (j0.set (0 : Int).toNat (Go.bits .xor .u64 (rd j0 0) a2)) := ⟨_, rfl⟩
  first | replace H := yb_ p1 H | rw [← p1] at H
  have C3 := c_ p1
  clear p1
  obtain rfl := Ba H
  obtain ⟨q6, D3, G4⟩ := uY e0.o
  subst G4
  have G2 : 0 ≤ (0 : Int) := (by omega)
  have H2 : 0 < (j0.length : Int) := oD_
  obtain ⟨M5, H4, J0⟩ := uZ (uX e0.o).2.2 0 G2 H2
  cases H4
  have qi467 : (0 < j0.length) = True := Aa (by omega)
  (try rw [show ((0 : Int)).toNat = 0 from rfl] at J0)
  (try rw [Addr.add_zero'] at J0)
  replace G2 := Aa G2
  replace H2 := Aa H2
  have I4 : 0 ≤ (0 : Int) := (by omega)
  have J4 : (0 : Int) < ((j0.length : Int) : Int) := oD_
  have qi71 : (0 < j0.length) = True := Aa (by omega)
  obtain ⟨go71, v6, E3, F3, gl71, cl71, HG71⟩ := vq e0.o (by omega)
  (first | cases E3 | (injection E3 with ea_ en_ ec_; (first | subst ea_ | (injection ea_ with ea_; subst ea_)); subst ec_; clear en_))
  have K4 := c_ F3
  have GG71 := c_ HG71
  clear F3 gl71 HG71
  (first | simp only [cj] at J0 | skip)
  obtain ⟨I1, hf71_0⟩ := vc 0 e0.o (0 : Int) I4 J4
  (try rw [show ((0 : Int)).toNat = 0 from rfl] at I1)
  (try simp only [Nat.reduceMul, Nat.zero_mul, Nat.zero_add, Nat.reduceAdd] at I1)
  (try rw [show ((0 : Int)).toNat = 0 from rfl] at hf71_0)
  (try simp only [Nat.reduceMul, Nat.zero_mul, Nat.zero_add, Nat.reduceAdd] at hf71_0)
  replace I4 := Aa I4
  replace J4 := Aa J4
  have HP73 := vm e0.o (0 : Int) (Go.bits .xor .u64 (rd j0 0) a2)
  go_wp2_with (first | ((refine cx (t := 107) (p := 152) rfl ?_); refine st_ 107 152 HP73 C3 K4 fun I6 hw hp_ hg HBn => ?_; obtain ⟨a0, e0, HB⟩ := b_ (vx (v := (.slice (some ⟨go71, 0, none⟩) j0.length D3)) (v1 := (.slice (some ⟨go71, 0, none⟩) j0.length D3)) (ok := (fun _ => True)) (by refine kR_ ?_; exact va a0.o (fun _ hk => ⟨trivial, hk⟩)) hg (.inl rfl)) <| b_ (hp_) <| c_ HBn.o; clear hg hw hp_))
  go_ret
  exact ⟨_, f1_, by refine kR_ ?_; exact va e0.o (fun _ hk => trivial), hB_⟩
 rw [Fa T2] at H
 have B3 := ya T2
 clear T2
 have H' := c_ H
 clear H
 go_wp2
 go_loopg [15] k3 (fun kq w6 w' => ∃ (I0 : List Int) (r0 : Int), w6 = .int .i64 r0 ∧ aa (ab.l4 kq a2 f0 I0 p0 r0 = some r) ∧ aa (kq ≤ k3) ∧ aa (Kd.R (Kd.int .u64) 107 w' w.heap.size (fun k_ => some k_ ≠ (U1 : Value).ownBlock) Q0 f0) ∧ aa (Kd.R (Kd.int .u64) 107 w' w.heap.size (fun k_ => some k_ ≠ (Q0 : Value).ownBlock) U1 I0) ∧ aa (Below w.heap.size w w'))
 case atStart => exact ⟨(j0), (0), f0_, H', ⟨Ca _⟩, ⟨rR_ a0.o⟩, ⟨rR_ e0.o⟩, ⟨hB_⟩⟩
 clear H'
 obtain ⟨I0, r0, rfl, HA, N3, a0, e0, HB⟩ := hrel
 rcases gk with _ | k4
 ·exact absurd HA.o (by simp [ab.l4])
 have H := HA.o
 clear HA
 simp only [ab.l4] at H
 by_cases U2 : r0 < 5
 rotate_left
 ·rw [Ga U2] at H
  have G3 := za U2
  clear U2
  have H' := c_ H
  clear H
  go_wp2
  go_roundg k4
  case measure => have := M1.o; have := Y1.o; have := T1.o; have := N3.o; omega
  case rel => exact ⟨(I0), (wrap64 (p0 + 1)), f0_, H', ⟨by have := M1.o; have := Y1.o; have := T1.o; have := N3.o; omega⟩, ⟨rR_ a0.o⟩, ⟨rR_ e0.o⟩, ⟨hB_⟩⟩
 rw [Fa U2] at H
 have G3 := ya U2
 clear U2
 obtain ⟨x0, J1⟩ : ∃ j_ : Int, (wrap64 (p0 + (wrap64 (5 * r0)))) = j_ := ⟨_, rfl⟩
 first | rw [J1] at H | simp only [J1] at H
 have L4 : (IntKind.i64.wrap (p0 + (wrap64 (5 * r0)))) = x0 := (bq _).trans J1
 obtain ⟨N5, H⟩ := iD_ H
 obtain ⟨O5, H⟩ := iD_ H
 obtain ⟨K0, K1⟩ : ∃ j_ : Int, (wrap64 ((Int.tmod (wrap64 (p0 + 1)) 5) + (wrap64 (5 * r0)))) = j_ := ⟨_, rfl⟩
 first | rw [K1] at H | simp only [K1] at H
 have M4 : (IntKind.i64.wrap ((Int.tmod (wrap64 (p0 + 1)) 5) + (wrap64 (5 * r0)))) = K0 := (bq _).trans K1
 obtain ⟨P5, H⟩ := iD_ H
 obtain ⟨Q5, H⟩ := iD_ H
 obtain ⟨L0, L1⟩ : ∃ j_ : Int, (wrap64 ((Int.tmod (wrap64 (p0 + 2)) 5) + (wrap64 (5 * r0)))) = j_ := ⟨_, rfl⟩
 first | rw [L1] at H | simp only [L1] at H
 have N4 : (IntKind.i64.wrap ((Int.tmod (wrap64 (p0 + 2)) 5) + (wrap64 (5 * r0)))) = L0 := (bq _).trans L1
 obtain ⟨R5, H⟩ := iD_ H
 obtain ⟨S5, H⟩ := iD_ H
 obtain ⟨T5, H⟩ := iD_ H
 obtain ⟨O4, q1⟩ : ∃ y_ : List Int, y_ = (I0.set ((x0) : Int).toNat (Go.bits .xor .u64 (rd f0 (x0)) (Go.bits .and .u64 (IntKind.u64.wrap (18446744073709551615 - (rd f0 (K0)))) (rd f0 (L0))))) := ⟨_, rfl⟩
 first | replace H := yb_ q1 H | rw [← q1] at H
 have H3 := c_ q1
 clear q1
 have H' := c_ H
 clear H
 try go_wp2
 obtain ⟨a0, e0, HB⟩ := b_ (vl a0.o) <| b_ (vl e0.o) <| c_ (bx HB.o)
 obtain ⟨y6, z6, I3⟩ := uY a0.o
 (first | subst I3 | (injection I3 with f1_ f2_ f3_; have f4_ := f1_.symm; have f5_ := f3_.symm; clear f1_ f2_ f3_; subst f4_; subst f5_))
 have I2 : 0 ≤ ((x0) : Int) := oD_
 have J2 : (x0) < (f0.length : Int) := oD_
 obtain ⟨T0, P4, r1⟩ := uZ (uX a0.o).2.2 (x0) I2 J2
 cases P4
 replace I2 := Aa I2
 replace J2 := Aa J2
 have K2 : 0 ≤ ((K0) : Int) := oD_
 have L2 : (K0) < (f0.length : Int) := oD_
 obtain ⟨J3, Q4, t1⟩ := uZ (uX a0.o).2.2 (K0) K2 L2
 obtain rfl : T0 = J3 := (by injection Q4)
 replace K2 := Aa K2
 replace L2 := Aa L2
 have M2 : 0 ≤ ((L0) : Int) := oD_
 have N2 : (L0) < (f0.length : Int) := oD_
 obtain ⟨K3, R4, y1⟩ := uZ (uX a0.o).2.2 (L0) M2 N2
 obtain rfl : T0 = K3 := (by injection R4)
 replace M2 := Aa M2
 replace N2 := Aa N2
 have S4 : 0 ≤ ((x0) : Int) := oD_
 have T4 : ((x0) : Int) < ((I0.length : Int) : Int) := oD_
 obtain ⟨go66, A6, L3, M3, gl66, cl66, HG66⟩ := vq e0.o (by omega)
 (first | cases L3 | (injection L3 with ea_ en_ ec_; (first | subst ea_ | (injection ea_ with ea_; subst ea_)); subst ec_; clear en_))
 have U4 := c_ M3
 have GG66 := c_ HG66
 clear M3 gl66 HG66
 obtain ⟨O2, hf66_0⟩ := vc 0 e0.o ((x0) : Int) S4 T4
 replace S4 := Aa S4
 replace T4 := Aa T4
 have HP69 := vI e0.o ((x0) : Int) (Go.bits .xor .u64 (rd f0 (x0)) (Go.bits .and .u64 (IntKind.u64.wrap (18446744073709551615 - (rd f0 (K0)))) (rd f0 (L0))))
 rw [← H3.o] at HP69
 have HQ69 := c_ HP69
 clear HP69
 refine ej (n := 35) (S := fun w' => w'.cell? (T0.add ((x0)).toNat) = some (.int .u64 (rd f0 (x0))) ∧ w'.cell? (T0.add ((K0)).toNat) = some (.int .u64 (rd f0 (K0))) ∧ w'.cell? (T0.add ((L0)).toNat) = some (.int .u64 (rd f0 (L0)))) (ds := [34]) (bb_ 35 0) (by kernel_rfl) rfl rfl ⟨r1, t1, y1⟩ (fun hHeld => ?_); refine cK ab.tab22 ab.bits22 (fun HT_ HW_ => ?_)
 generalize wr.drew = J6 at a0 e0 HB GG66 HQ69 hf66_0 r1 t1 y1 O2 hHeld ⊢
 refine pT_ 0 112 35 1 ?_
 refine pT_ 1 113 35 3 ?_
 refine pT_ 2 114 35 7 ?_
 refine pT_ 3 115 35 15 ?_
 refine pT_ 4 116 35 31 ?_
 refine pT_ 5 117 35 63 ?_
 refine pT_ 6 118 35 127 ?_
 refine pT_ 7 119 35 255 ?_
 refine pT_ 8 120 35 511 ?_
 refine pT_ 9 121 35 1023 ?_
 refine pT_ 10 122 35 2047 ?_
 refine pT_ 12 124 35 6143 ?_
 refine pT_ 13 125 35 14335 ?_
 refine pT_ 14 126 35 30719 ?_
 refine pT_ 15 127 35 63487 ?_
 refine pT_ 16 128 35 129023 ?_
 refine pT_ 17 129 35 260095 ?_
 refine pT_ 18 130 35 522239 ?_
 refine pT_ 19 131 35 1046527 ?_
 refine pT_ 22 134 35 5240831 ?_
 refine pT_ 23 135 35 13629439 ?_
 refine pT_ 24 136 35 30406655 ?_
 refine pT_ 25 137 35 63961087 ?_
 refine pT_ 26 138 35 131069951 ?_
 refine pT_ 27 139 35 265287679 ?_
 refine pT_ 28 140 35 533723135 ?_
 refine pT_ 29 141 35 1070594047 ?_
 refine tS_ 11 123 (bb_ 35 1070596095) (bA HT_.o HW_.o (by kernel_rfl)) hHeld ?_
 refine tS_ 20 132 (bb_ 35 1071644671) (bA HT_.o HW_.o (by kernel_rfl)) hHeld ?_
 refine pT_ 21 133 35 1073741823 ?_
 refine tS_ 30 142 (bb_ 35 2147483647) (bA HT_.o HW_.o (by kernel_rfl)) hHeld ?_
 refine pT_ 31 143 35 4294967295 ?_
 refine pT_ 32 144 35 8589934591 ?_
 refine pT_ 33 145 35 17179869183 ?_
 refine gR (i := 34) (N := none) (bb_ 35 34359738367) rfl rfl (cz HT_.o (by kernel_rfl)) (by decide) (fun K hK => ?_)
 refine jb (w1 := ?_) (by rfl) rfl ?_ ?_
 rotate_left
 ·go_simp
  rfl
 refine hK _ _ ?_
 clear hK K
 refine fq (dA HT_.o (by kernel_rfl)) ?_
 try go_wp2
 go_roundg k4
 case measure => have := M1.o; have := Y1.o; have := T1.o; have := N3.o; omega
 case rel => exact ⟨(O4), (wrap64 (r0 + 1)), f0_, H', ⟨by have := M1.o; have := Y1.o; have := T1.o; have := N3.o; omega⟩, ⟨by refine kR_ ?_; exact va (vt (p := ⟨go66, ((x0) : Int).toNat, none⟩) (va a0.o (fun k_ hk => (⟨hk, fun e_ => hk (by rw [e_]; rfl)⟩ : _ ∧ k_ ≠ go66))) (fun _ hk => hk.2) (.int .u64 (Go.bits .xor .u64 (rd f0 (x0)) (Go.bits .and .u64 (IntKind.u64.wrap (18446744073709551615 - (rd f0 (K0)))) (rd f0 (L0)))))) (fun _ hk => hk.1)⟩, ⟨rR_ HQ69.o⟩, ⟨hS_ U4.o⟩⟩
def aK.l0 : Nat → List Int → List Int → List Int → Int → Option (List Int)
 | 0, _, _, _, _ => none
 | k + 1, x0, x3, x4, x5 => if x5 < 24 then (if 0 ≤ x5 then (if x5 < (x4.length : Int) then ((ab.f k x0 x3 (rd x4 x5)).bind fun t480 => (aK.l0 k t480 x3 x4 (wrap64 (x5 + 1)))) else (none)) else (none)) else (some x0)
def aK.f (k : Nat) (l0 : List Int) : Option (List Int) := (bI.f k).bind fun t473 => ((aJ.f k).bind fun t476 => (aK.l0 k l0 t473 t476 0))
theorem aK.mono_l : ∀ k, (∀ y0 y1 y2 y3, LeO (aK.l0 k y0 y1 y2 y3) (aK.l0 (k + 1) y0 y1 y2 y3))
 | 0 => fun _ _ _ _ r h => by simp [aK.l0] at h
 | k + 1 => by
  have ih0 := aK.mono_l k
  intros; unfold aK.l0; exact o4_ ih0 ab.mono aJ.mono bI.mono
theorem aK.mono : ∀ a0 k, LeO (aK.f k a0) (aK.f (k + 1) a0) := by
 intro a0 k
 have ih0 := aK.mono_l k
 unfold aK.f
 exact o4_ ih0 ab.mono aJ.mono bI.mono
theorem aK.calls (k : Nat) (P0_ : Nat → Prop) (A0 : Option Addr) (c0 : Nat) (l0 : List Int) (r : List Int) (w : World) (hs0 : Kd.V (Kd.int .u64) 107 w w.heap.size (fun k_ => P0_ k_) (.slice A0 l0.length c0) l0) (h : aK.f k l0 = some r) :
  Calls Tryz.prog 116 #[.slice A0 l0.length c0] w fun e w' => ∃ K0 : Value, e = .returned (K0) ∧ Kd.V (Kd.int .u64) 107 w' w.heap.size (fun k_ => (P0_ k_ ∨ w.heap.size ≤ k_)) K0 r ∧ Below w.heap.size w w' := by
 have q0 := c_ (show Kd.V (Kd.int .u64) 107 w w.heap.size (fun k_ => (P0_ k_ ∨ w.heap.size ≤ k_)) (.slice A0 l0.length c0) l0 from vW hs0 (fun k_ hk => .inl hk))
 have HB := c_ (Da w.heap.size w)
 delta aK.f at h
 have H := h
 clear h
 obtain ⟨r0, A2, H⟩ := bN_ H
 obtain ⟨j0, A3, H⟩ := bN_ H
 have H' := c_ H
 clear H
 go_enter Tryz.func116, Tryz.ntmps116
 go_wp2_with (first | (refine gR_ (k_ 6 Tryz.func122) (bI.calls _ _ _ A2.o) fun x0 w4 ho_ hb => ?_; obtain ⟨q0, f0, HB⟩ := n_ (tY q0) <| b_ (vb (wn (M := fun k_ => (w.heap.size ≤ k_)) ho_ (au (hB_)) (fun k_ h_ => h_)) (au (hB_))) <| sB_) | (refine gR_ (k_ 7 Tryz.func123) (aJ.calls _ _ _ A3.o) fun y0 w5 ho_ hb => ?_; obtain ⟨q0, f0, B0, HB⟩ := n_ (tY q0) <| n_ (fR_ f0) <| b_ (vb (wn (M := fun k_ => (w.heap.size ≤ k_)) ho_ (au (hB_)) (fun k_ h_ => h_)) (au (hB_))) <| sB_))
 go_loopg [0, 5] k (fun kq v0 v5 w' => ∃ (k0 : List Int) (a0 : Int), v5 = .int .i64 a0 ∧ aa (aK.l0 kq k0 r0 j0 a0 = some r) ∧ aa (kq ≤ k) ∧ aa (Kd.V (Kd.int .u64) 107 w' w.heap.size (fun k_ => (P0_ k_ ∨ w.heap.size ≤ k_) ∧ some k_ ≠ (x0 : Value).ownBlock ∧ some k_ ≠ (y0 : Value).ownBlock) v0 k0) ∧ aa (Kd.R (Kd.int .i64) 3 w' w.heap.size (fun k_ => (w.heap.size ≤ k_)) x0 r0) ∧ aa (Kd.R (Kd.int .u64) 107 w' w.heap.size (fun k_ => (w.heap.size ≤ k_)) y0 j0) ∧ aa (Below w.heap.size w w'))
 case atStart => exact ⟨(l0), (0), f0_, H', ⟨Ca _⟩, ⟨by refine kV_ ?_; exact vW q0.o (fun _ hk => ⟨hk.1.1, ⟨hk.1.2, hk.2⟩⟩)⟩, ⟨by refine kR_ ?_; exact va f0.o (fun _ hk => hk.1)⟩, ⟨by refine kR_ ?_; exact va B0.o (fun _ hk => hk.1)⟩, ⟨hB_⟩⟩
 clear H'
 obtain ⟨k0, a0, rfl, HA, L0, d0, b0, e0, HB⟩ := hrel
 rcases gk with _ | k1
 ·exact absurd HA.o (by simp [aK.l0])
 have H := HA.o
 clear HA
 simp only [aK.l0] at H
 by_cases c6 : a0 < 24
 rotate_left
 ·rw [Ga c6] at H
  have E0 := za c6
  clear c6
  obtain rfl := Ba H
  go_wp2
  go_ret
  exact ⟨_, f1_, by refine kV_ ?_; exact vW d0.o (fun _ hk => hk.1), hB_⟩
 rw [Fa c6] at H
 have E0 := ya c6
 clear c6
 obtain ⟨N0, H⟩ := iD_ H
 obtain ⟨O0, H⟩ := iD_ H
 obtain ⟨F0, A9, H⟩ := bN_ H
 have H' := c_ H
 clear H
 obtain ⟨P0, Q0, G0⟩ := uY e0.o
 subst G0
 have n0 : 0 ≤ (a0 : Int) := oD_
 have p0 : a0 < (j0.length : Int) := oD_
 obtain ⟨M0, H0, D0⟩ := uZ (uX e0.o).2.2 a0 n0 p0
 cases H0
 replace n0 := Aa n0
 replace p0 := Aa p0
 obtain ⟨R0, S0, I0⟩ := wm d0.o
 subst I0
 obtain ⟨T0, U0, J0⟩ := uY b0.o
 subst J0
 go_wp2_with (first | (refine gR_ (k_ 18 Tryz.func124) (ab.calls _ _ _ _ _ _ _ _ _ _ (cR_ (vM d0.o).2.2) ((vM d0.o).2.1) (cR_ (uX b0.o).2.2) ((uX b0.o).2.1) A9.o) fun V0 W0 ho_ hb => ?_; obtain ⟨d0, b0, e0, C0, HB⟩ := n_ (tY d0) <| n_ (fR_ b0) <| n_ (di e0) <| b_ (vb (vp (wn (M := fun k_ => (w.heap.size ≤ k_)) ho_ (au (hB_)) (fun k_ h_ => h_)) (vE (rR_ e0.o))) (au (hB_))) <| sB_))
 go_roundg k1
 case measure => have := L0.o; omega
 case rel => exact ⟨(F0), (wrap64 (a0 + 1)), f0_, H', ⟨by have := L0.o; omega⟩, ⟨vW (Kd.R_V (vh C0.o (wj b0.o) (by decide))) (fun k_ hk => ⟨.inr hk.1.1.1, hk.2, hk.1.2⟩)⟩, ⟨rR_ b0.o⟩, ⟨by refine kR_ ?_; exact va e0.o (fun _ hk => hk.1)⟩, ⟨hB_⟩⟩
mutual
def aG.l0 : Nat → List Int → List Int → Int → Option (ByteArray)
 | 0, _, _, _ => none
 | k + 1, x0, x3, x4 => if x4 < (x0.length : Int) then (if 0 ≤ x4 then (aG.l1 k x0 x3 x4 (rd x0 x4) 0) else (none)) else (some (strOfNums x3))
def aG.l1 : Nat → List Int → List Int → Int → Int → Int → Option (ByteArray)
 | 0, _, _, _, _, _ => none
 | k + 1, x0, x3, x4, x5, x6 => if x6 < 8 then (if x3.length < 140737488355328 then (aG.l1 k x0 (x3 ++ [(Int.tmod x5 256) % 256]) x4 (IntKind.u64.wrap (Int.tdiv x5 256)) (wrap64 (x6 + 1))) else (none)) else (aG.l0 k x0 x3 (wrap64 (x4 + 1)))
end
def aG.f (k : Nat) (l0 : List Int) : Option (ByteArray) := aG.l0 k l0 (([] : List Int)) 0
theorem aG.mono_l : ∀ k, (∀ y0 y1 y2, LeO (aG.l0 k y0 y1 y2) (aG.l0 (k + 1) y0 y1 y2)) ∧ (∀ y0 y1 y2 y3 y4, LeO (aG.l1 k y0 y1 y2 y3 y4) (aG.l1 (k + 1) y0 y1 y2 y3 y4))
 | 0 => ⟨fun _ _ _ r h => by simp [aG.l0] at h, fun _ _ _ _ _ r h => by simp [aG.l1] at h⟩
 | k + 1 => by
  obtain ⟨ih0, ih1⟩ := aG.mono_l k
  refine ⟨?_, ?_⟩ <;> (intros; (first | unfold aG.l0 | unfold aG.l1); exact o2_ ih0 ih1)
theorem aG.mono : ∀ a0 k, LeO (aG.f k a0) (aG.f (k + 1) a0) := by
 intro a0 k
 obtain ⟨ih0, ih1⟩ := aG.mono_l k
 unfold aG.f
 exact o2_ ih0 ih1
theorem aG.calls (k : Nat) (A0 : Option Addr) (c0 : Nat) (l0 : List Int) (r : ByteArray) (w : World) (hr0 : Kd.C (Kd.int .u64) w A0 l0.length l0) (hc0 : l0.length ≤ c0) (h : aG.f k l0 = some r) :
  Calls Tryz.prog 117 #[.slice A0 l0.length c0] w fun e w' => e = .returned (.string r) ∧ Below w.heap.size w w' := by
 have L0 := c_ hr0
 have Q0 := c_ hc0
 clear hr0 hc0
 have HB := c_ (Da w.heap.size w)
 delta aG.f at h
 have H := h
 clear h
 obtain ⟨E0, b0⟩ : ∃ y_ : List Int, y_ = (([] : List Int)) := ⟨_, rfl⟩
 first | replace H := yb_ b0 H | rw [← b0] at H
 have v0 := c_ b0
 clear b0
 have H' := c_ H
 clear H
 go_enter Tryz.func117, Tryz.ntmps117
 go_wp2_with (first | (refine lj_ 7 .u8 5 v0 fun M0 w2 x0 HB => ?_))
 go_loopg [3, 4] k (fun kq v3 v4 w' => ∃ (p0 : List Int) (a0 : Int), v4 = .int .i64 a0 ∧ aa (aG.l0 kq l0 p0 a0 = some r) ∧ aa (kq ≤ k) ∧ aa (Kd.R (Kd.int .u8) 5 w' w.heap.size (fun _ => True) v3 p0) ∧ aa (Below w.heap.size w w'))
 case atStart => exact ⟨(E0), (0), f0_, H', ⟨Ca _⟩, ⟨rR_ x0.o⟩, ⟨hB_⟩⟩
 clear H'
 obtain ⟨p0, a0, rfl, HA, C0, f0, HB⟩ := hrel
 rcases gk with _ | k1
 ·exact absurd HA.o (by simp [aG.l0])
 have H := HA.o
 clear HA
 simp only [aG.l0] at H
 by_cases c4 : a0 < (l0.length : Int)
 rotate_left
 ·rw [Ga c4] at H
  have F0 := za c4
  clear c4
  obtain rfl := Ba H
  have N0 := dS (P := Tryz.prog) Tryz.underlying22 Tryz.underlying5 Tryz.underlying9 (vn f0.o)
  go_wp2
  go_ret
  exact ⟨f1_, hB_⟩
 rw [Fa c4] at H
 have F0 := ya c4
 clear c4
 obtain ⟨O0, H⟩ := iD_ H
 have H' := c_ H
 clear H
 have q0 : 0 ≤ (a0 : Int) := oD_
 have r0 : a0 < (l0.length : Int) := oD_
 obtain ⟨K0, G0, d0⟩ := uZ L0.o a0 q0 r0
 cases G0
 replace d0 := hc_ d0
 replace q0 := Aa q0
 replace r0 := Aa r0
 go_wp2
 go_loopg [3, 5, 6] k1 (fun kq v3 v5 v6 w' => ∃ (j0 : List Int) (k0 : Int) (n0 : Int), v5 = .int .u64 k0 ∧ v6 = .int .i64 n0 ∧ aa (aG.l1 kq l0 j0 a0 k0 n0 = some r) ∧ aa (kq ≤ k1) ∧ aa (Kd.R (Kd.int .u8) 5 w' w.heap.size (fun _ => True) v3 j0) ∧ aa (Below w.heap.size w w'))
 case atStart => exact ⟨(p0), (rd l0 a0), (0), f0_, f0_, H', ⟨Ca _⟩, ⟨rR_ f0.o⟩, ⟨hB_⟩⟩
 clear H'
 obtain ⟨j0, k0, n0, rfl, rfl, HA, D0, f0, HB⟩ := hrel
 rcases gk with _ | k2
 ·exact absurd HA.o (by simp [aG.l1])
 have H := HA.o
 clear HA
 simp only [aG.l1] at H
 by_cases c6 : n0 < 8
 ·rw [Fa c6] at H
  have H0 := ya c6
  clear c6
  obtain ⟨c7, H⟩ := iN_ H
  have I0 := c_ c7
  clear c7
  obtain ⟨J0, e0⟩ : ∃ y_ : List Int, y_ = (j0 ++ [(Int.tmod k0 256) % 256]) := ⟨_, rfl⟩
  first | replace H := yb_ e0 H | rw [← e0] at H
  have y0 := c_ e0
  clear e0
  have H' := c_ H
  clear H
  go_wp2_with (first | (refine ga_ 22 26 ?_; at_builtin; refine ap_ f0 y0 I0 Tryz.underlying22 jq fun P0 w8 B0 HB hg hat => ?_))
  go_roundg k2
  case measure => have := C0.o; have := D0.o; omega
  case rel => exact ⟨(J0), (IntKind.u64.wrap (Int.tdiv k0 256)), (wrap64 (n0 + 1)), f0_, f0_, H', ⟨by have := C0.o; have := D0.o; omega⟩, ⟨rR_ B0.o⟩, ⟨hB_⟩⟩
 rw [Ga c6] at H
 have H0 := za c6
 clear c6
 have H' := c_ H
 clear H
 go_wp2
 go_roundg k2
 case measure => have := C0.o; have := D0.o; omega
 case rel => exact ⟨(j0), (wrap64 (a0 + 1)), f0_, H', ⟨by have := C0.o; have := D0.o; omega⟩, ⟨rR_ f0.o⟩, ⟨hB_⟩⟩
-- GIVEN: function 108 (cJ)
def cW.f (k : Nat) (a0 : ByteArray) : Option (ByteArray) := if (a0.size : Int) = 200 then ((aH.f k a0).bind fun t492 => ((aK.f k t492).bind fun t495 => ((aG.f k t495).bind fun t498 => (some t498)))) else (some a0)
theorem cW.mono : ∀ a0 k, LeO (cW.f k a0) (cW.f (k + 1) a0) := by
 intro a0 k
 unfold cW.f
 exact o3_ aG.mono aH.mono aK.mono
theorem cW.calls (k : Nat) (a0 : ByteArray) (r : ByteArray) (w : World) (h : cW.f k a0 = some r) :
  Calls Tryz.prog 109 #[.string a0] w fun e w' => e = .returned (.string r) ∧ Below w.heap.size w w' := by
 have HB := c_ (Da w.heap.size w)
 delta cW.f at h
 have H := h
 clear h
 by_cases c2 : (a0.size : Int) = 200
 ·rw [Fa c2] at H
  have e0 : ((a0.size : Int) == 200) = true := beq_iff_eq.mpr c2
  have f0 : ((a0.size : Int) != 200) = false := bne_eq_false_iff_eq.mpr c2
  clear c2
  obtain ⟨j0, A3, H⟩ := bN_ H
  obtain ⟨k0, A4, H⟩ := bN_ H
  obtain ⟨n0, A5, H⟩ := bN_ H
  obtain rfl := Ba H
  go_enter Tryz.func109, Tryz.ntmps109
  go_wp2_with (first | (refine gR_ (k_ 8 Tryz.func115) (aH.calls _ _ _ _ A3.o) fun p0 w6 ho_ hb => ?_; obtain ⟨b0, HB⟩ := n_ (lR_ ho_) <| sB_; obtain ⟨q0, r0, v0⟩ := uY b0.o; subst v0) | (refine gR_ (k_ 9 Tryz.func116) (aK.calls _ (fun k_ => some k_ = (.slice q0 j0.length r0 : Value).ownBlock) _ _ _ _ _ (Kd.R_V (vA rfl (b0.o))) A4.o) fun x0 w8 ho_ hb => ?_; obtain ⟨b0, d0, HB⟩ := n_ (fR_ b0) <| b_ (wN (vW (ok' := fun k_ => True) ho_ (fun k_ hk_ => trivial)) (au (hB_))) <| sB_; obtain ⟨B0, C0, y0⟩ := wm d0.o; subst y0) | (refine gc_ (k_ 10 Tryz.func117) (aG.calls _ _ _ _ _ _ (cR_ (vM d0.o).2.2) ((vM d0.o).2.1) A5.o) fun D0 hb => ?_; obtain ⟨b0, d0, HB⟩ := n_ (fR_ b0) <| n_ (fV_ d0) <| sB_))
  go_ret
  exact ⟨f1_, hB_⟩
 rw [Ga c2] at H
 have e0 : ((a0.size : Int) == 200) = false := beq_eq_false_iff_ne.mpr c2
 have f0 : ((a0.size : Int) != 200) = true := bne_iff_ne.mpr c2
 obtain rfl := Ba H
 go_enter Tryz.func109, Tryz.ntmps109
 go_wp2
 go_ret
 exact ⟨f1_, hB_⟩
-- GIVEN: function 96 (aw)
def ak.l0 : Nat → List Int → Int → Option (Bool)
 | 0, _, _ => none
 | k + 1, x0, x3 => if x3 < (x0.length : Int) then (if 0 ≤ x3 then ((aX.f (rd x0 x3) 0 3328).bind fun t533 => (if t533 = true then (ak.l0 k x0 (wrap64 (x3 + 1))) else (some false))) else (none)) else (some true)
def ak.f (k : Nat) (l0 : List Int) : Option (Bool) := if (l0.length : Int) = 256 then (ak.l0 k l0 0) else (some false)
theorem ak.mono_l : ∀ k, (∀ y0 y1, LeO (ak.l0 k y0 y1) (ak.l0 (k + 1) y0 y1))
 | 0 => fun _ _ r h => by simp [ak.l0] at h
 | k + 1 => by
  have ih0 := ak.mono_l k
  intros; unfold ak.l0; exact o1_ ih0
theorem ak.mono : ∀ a0 k, LeO (ak.f k a0) (ak.f (k + 1) a0) := by
 intro a0 k
 have ih0 := ak.mono_l k
 unfold ak.f
 exact o1_ ih0
theorem ak.calls (k : Nat) (A0 : Option Addr) (c0 : Nat) (l0 : List Int) (r : Bool) (w : World) (hr0 : Kd.C (Kd.int .i64) w A0 l0.length l0) (hc0 : l0.length ≤ c0) (h : ak.f k l0 = some r) :
  Calls Tryz.prog 57 #[.slice A0 l0.length c0] w fun e w' => e = .returned (.bool r) ∧ cr w w' := by
 have r0 := c_ hr0
 have y0 := c_ hc0
 clear hr0 hc0
 delta ak.f at h
 have H := h
 clear h
 by_cases c2 : (l0.length : Int) = 256
 rotate_left
 ·rw [Ga c2] at H
  have k0 : ((l0.length : Int) == 256) = false := beq_eq_false_iff_ne.mpr c2
  have n0 : ((l0.length : Int) != 256) = true := bne_iff_ne.mpr c2
  obtain rfl := Ba H
  go_enter Tryz.func57, Tryz.ntmps57
  go_wp2
  go_ret
  exact ⟨f0_, d0_⟩
 rw [Fa c2] at H
 have k0 : ((l0.length : Int) == 256) = true := beq_iff_eq.mpr c2
 have n0 : ((l0.length : Int) != 256) = false := bne_eq_false_iff_eq.mpr c2
 clear c2
 have H' := c_ H
 clear H
 go_enter Tryz.func57, Tryz.ntmps57
 go_wp2
 go_loopg [3] k (fun kq v3 w' => ∃ (a0 : Int), v3 = .int .i64 a0 ∧ aa (ak.l0 kq l0 a0 = some r) ∧ aa (kq ≤ k) ∧ cr w w')
 case atStart => exact ⟨(0), f0_, H', ⟨Ca _⟩, d0_⟩
 clear H'
 obtain ⟨a0, rfl, HA, v0, ⟨m1, rfl⟩⟩ := hrel
 rcases gk with _ | k1
 ·exact absurd HA.o (by simp [ak.l0])
 have H := HA.o
 clear HA
 simp only [ak.l0] at H
 by_cases c3 : a0 < (l0.length : Int)
 rotate_left
 ·rw [Ga c3] at H
  have p0 := za c3
  clear c3
  obtain rfl := Ba H
  go_wp2
  go_ret
  exact ⟨f0_, d0_⟩
 rw [Fa c3] at H
 have p0 := ya c3
 clear c3
 obtain ⟨x0, H⟩ := iD_ H
 obtain ⟨q0, A5, H⟩ := bN_ H
 by_cases c6 : q0 = true
 ·subst c6
  replace H := iT_ H
  have H' := c_ H
  clear H
  have b0 : 0 ≤ (a0 : Int) := oD_
  have d0 : a0 < (l0.length : Int) := oD_
  obtain ⟨j0, f0, e0⟩ := uZ r0.o a0 b0 d0
  cases f0
  replace b0 := Aa b0
  replace d0 := Aa d0
  go_wp2_with (first | (refine gp_ (k_ 17 Tryz.func97) (aX.calls _ _ _ _ _ A5.o) fun nd => ?_))
  go_roundg k1
  case measure => have := v0.o; omega
  case rel => exact ⟨(wrap64 (a0 + 1)), f0_, H', ⟨by have := v0.o; omega⟩, d0_⟩
 ·replace c6 := Ea c6
  subst c6
  replace H := iF_ H
  obtain rfl := Ba H
  have b0 : 0 ≤ (a0 : Int) := oD_
  have d0 : a0 < (l0.length : Int) := oD_
  obtain ⟨j0, f0, e0⟩ := uZ r0.o a0 b0 d0
  cases f0
  replace b0 := Aa b0
  replace d0 := Aa d0
  go_wp2_with (first | (refine gp_ (k_ 17 Tryz.func97) (aX.calls _ _ _ _ _ A5.o) fun nd => ?_))
  go_ret
  exact ⟨f0_, d0_⟩
mutual
def bn.j0 : Nat → Int → Int → Option (Int)
 | 0, _, _ => none
 | k + 1, x0, x1 => bn.l0 k x0 x1 1
def bn.l0 : Nat → Int → Int → Int → Option (Int)
 | 0, _, _, _ => none
 | k + 1, x0, x1, x5 => if x1 > 0 then (if (Int.tmod x1 2) = 1 then (bn.l0 k (Int.tmod (wrap64 (x0 * x0)) 3329) (wrap64 (Int.tdiv x1 2)) (Int.tmod (wrap64 (x5 * x0)) 3329)) else (bn.l0 k (Int.tmod (wrap64 (x0 * x0)) 3329) (wrap64 (Int.tdiv x1 2)) x5)) else (some x5)
end
def bn.f (k : Nat) (a0 : Int) (a1 : Int) : Option (Int) := (aX.f a1 0 1000000000).bind fun t534 => (if t534 = true then (if (Int.tmod a0 3329) < 0 then (bn.j0 k (wrap64 ((Int.tmod a0 3329) + 3329)) a1) else (bn.j0 k (Int.tmod a0 3329) a1)) else (some 0))
theorem bn.mono_l : ∀ k, (∀ y0 y1, LeO (bn.j0 k y0 y1) (bn.j0 (k + 1) y0 y1)) ∧ (∀ y0 y1 y2, LeO (bn.l0 k y0 y1 y2) (bn.l0 (k + 1) y0 y1 y2))
 | 0 => ⟨fun _ _ r h => by simp [bn.j0] at h, fun _ _ _ r h => by simp [bn.l0] at h⟩
 | k + 1 => by
  obtain ⟨ih0, ih1⟩ := bn.mono_l k
  refine ⟨?_, ?_⟩ <;> (intros; (first | unfold bn.j0 | unfold bn.l0); exact o2_ ih0 ih1)
theorem bn.mono : ∀ a0 a1 k, LeO (bn.f k a0 a1) (bn.f (k + 1) a0 a1) := by
 intro a0 a1 k
 obtain ⟨ih0, ih1⟩ := bn.mono_l k
 unfold bn.f
 exact o2_ ih0 ih1
theorem bn.calls (k : Nat) (a0 : Int) (a1 : Int) (r : Int) (w : World) (h : bn.f k a0 a1 = some r) :
  Calls Tryz.prog 58 #[.int .i64 a0, .int .i64 a1] w fun e w' => e = .returned (.int .i64 r) ∧ cr w w' := by
 delta bn.f at h
 have H := h
 clear h
 obtain ⟨q0, A3, H⟩ := bN_ H
 by_cases c4 : q0 = true
 ·subst c4
  replace H := iT_ H
  have r0 := c_ H
  clear H
  go_enter Tryz.func58, Tryz.ntmps58
  go_upto_if 12 with (first | (refine gp_ (k_ 7 Tryz.func97) (aX.calls _ _ _ _ _ A3.o) fun nd => ?_))
  (try simp only [Act.put, List.setIfInBounds_toArray, List.set_cons_zero, List.set_cons_succ])
  go_cut [0] (fun v0 wc => ∃ (kq : Nat) (k0 : Int), v0 = .int .i64 k0 ∧ aa (bn.j0 kq k0 a1 = some r) ∧ aa (kq ≤ k) ∧ cr w wc)
  case first =>
   have H := r0.o
   clear r0
   by_cases c6 : (Int.tmod a0 3329) < 0
   ·rw [Fa c6] at H
    have e0 := ya c6
    clear c6
    (first | rw [e0] | (simp only [bq, ct]; rw [e0]) | skip)
    have H' := c_ H
    clear H
    go_wp2
    go_meet
    case rel => exact ⟨_, (wrap64 ((Int.tmod a0 3329) + 3329)), f0_, H', ⟨by first | omega | exact Ca _⟩, d0_⟩
   rw [Ga c6] at H
   have e0 := za c6
   clear c6
   (first | rw [e0] | (simp only [bq, ct]; rw [e0]) | skip)
   have H' := c_ H
   clear H
   go_wp2
   go_meet
   case rel => exact ⟨_, (Int.tmod a0 3329), f0_, H', ⟨by first | omega | exact Ca _⟩, d0_⟩
  clear r0
  obtain ⟨kq, k0, rfl, HA, n0, ⟨mc4, rfl⟩⟩ := hcut
  rcases kq with _ | C0
  ·exact absurd HA.o (by simp [bn.j0])
  have H := HA.o
  clear HA
  simp only [bn.j0] at H
  have H' := c_ H
  clear H
  go_wp2
  go_loopg [0, 1, 5] C0 (fun kq v0 v1 v5 w' => ∃ (d0 : Int) (b0 : Int) (f0 : Int), v0 = .int .i64 d0 ∧ v1 = .int .i64 b0 ∧ v5 = .int .i64 f0 ∧ aa (bn.l0 kq d0 b0 f0 = some r) ∧ aa (kq ≤ C0) ∧ cr w w')
  case atStart => exact ⟨(k0), (a1), (1), f0_, f0_, f0_, H', ⟨Ca _⟩, d0_⟩
  clear H'
  obtain ⟨d0, b0, f0, rfl, rfl, rfl, HA, p0, ⟨m2, rfl⟩⟩ := hrel
  rcases gk with _ | k2
  ·exact absurd HA.o (by simp [bn.l0])
  have H := HA.o
  clear HA
  simp only [bn.l0] at H
  by_cases c7 : b0 > 0
  ·rw [Fa c7] at H
   have x0 := ya c7
   clear c7
   by_cases c8 : (Int.tmod b0 2) = 1
   ·rw [Fa c8] at H
    have y0 : ((Int.tmod b0 2) == 1) = true := beq_iff_eq.mpr c8
    have B0 : ((Int.tmod b0 2) != 1) = false := bne_eq_false_iff_eq.mpr c8
    clear c8
    have H' := c_ H
    clear H
    go_wp2
    go_roundg k2
    case measure => have := n0.o; have := p0.o; omega
    case rel => exact ⟨(Int.tmod (wrap64 (d0 * d0)) 3329), (wrap64 (Int.tdiv b0 2)), (Int.tmod (wrap64 (f0 * d0)) 3329), f0_, f0_, f0_, H', ⟨by have := n0.o; have := p0.o; omega⟩, d0_⟩
   rw [Ga c8] at H
   have y0 : ((Int.tmod b0 2) == 1) = false := beq_eq_false_iff_ne.mpr c8
   have B0 : ((Int.tmod b0 2) != 1) = true := bne_iff_ne.mpr c8
   have H' := c_ H
   clear H
   go_wp2
   go_roundg k2
   case measure => have := n0.o; have := p0.o; omega
   case rel => exact ⟨(Int.tmod (wrap64 (d0 * d0)) 3329), (wrap64 (Int.tdiv b0 2)), (f0), f0_, f0_, f0_, H', ⟨by have := n0.o; have := p0.o; omega⟩, d0_⟩
  rw [Ga c7] at H
  have x0 := za c7
  clear c7
  obtain rfl := Ba H
  go_wp2
  go_ret
  exact ⟨f0_, d0_⟩
 ·replace c4 := Ea c4
  subst c4
  replace H := iF_ H
  obtain rfl := Ba H
  go_enter Tryz.func58, Tryz.ntmps58
  go_wp2_with (first | (refine gp_ (k_ 7 Tryz.func97) (aX.calls _ _ _ _ _ A3.o) fun nd => ?_))
  go_ret
  exact ⟨f0_, d0_⟩
mutual
def aZ.j0 : Nat → Int → Option (Int)
 | 0, _ => none
 | k + 1, x0 => aZ.l0 k x0 0 0
def aZ.l0 : Nat → Int → Int → Int → Option (Int)
 | 0, _, _, _ => none
 | k + 1, x0, x3, x4 => if x4 < 7 then (aZ.l0 k (wrap64 (Int.tdiv x0 2)) (wrap64 ((wrap64 (2 * x3)) + (Int.tmod x0 2))) (wrap64 (x4 + 1))) else (some x3)
end
def aZ.f (k : Nat) (a0 : Int) : Option (Int) := if (Int.tmod a0 128) < 0 then (aZ.j0 k (wrap64 ((Int.tmod a0 128) + 128))) else (aZ.j0 k (Int.tmod a0 128))
theorem aZ.mono_l : ∀ k, (∀ y0, LeO (aZ.j0 k y0) (aZ.j0 (k + 1) y0)) ∧ (∀ y0 y1 y2, LeO (aZ.l0 k y0 y1 y2) (aZ.l0 (k + 1) y0 y1 y2))
 | 0 => ⟨fun _ r h => by simp [aZ.j0] at h, fun _ _ _ r h => by simp [aZ.l0] at h⟩
 | k + 1 => by
  obtain ⟨ih0, ih1⟩ := aZ.mono_l k
  refine ⟨?_, ?_⟩ <;> (intros; (first | unfold aZ.j0 | unfold aZ.l0); exact o2_ ih0 ih1)
theorem aZ.mono : ∀ a0 k, LeO (aZ.f k a0) (aZ.f (k + 1) a0) := by
 intro a0 k
 obtain ⟨ih0, ih1⟩ := aZ.mono_l k
 unfold aZ.f
 exact o2_ ih0 ih1
theorem aZ.calls (k : Nat) (a0 : Int) (r : Int) (w : World) (h : aZ.f k a0 = some r) :
  Calls Tryz.prog 59 #[.int .i64 a0] w fun e w' => e = .returned (.int .i64 r) ∧ cr w w' := by
 delta aZ.f at h
 have H := h
 clear h
 have n0 := c_ H
 clear H
 go_enter Tryz.func59, Tryz.ntmps59
 go_upto_if 8 with (fail)
 go_cut [0] (fun v0 wc => ∃ (kq : Nat) (f0 : Int), v0 = .int .i64 f0 ∧ aa (aZ.j0 kq f0 = some r) ∧ aa (kq ≤ k) ∧ cr w wc)
 case first =>
  have H := n0.o
  clear n0
  by_cases c3 : (Int.tmod a0 128) < 0
  ·rw [Fa c3] at H
   have b0 := ya c3
   clear c3
   (first | rw [b0] | (simp only [bq, ct]; rw [b0]) | skip)
   have H' := c_ H
   clear H
   go_wp2
   go_meet
   case rel => exact ⟨_, (wrap64 ((Int.tmod a0 128) + 128)), f0_, H', ⟨by first | omega | exact Ca _⟩, d0_⟩
  rw [Ga c3] at H
  have b0 := za c3
  clear c3
  (first | rw [b0] | (simp only [bq, ct]; rw [b0]) | skip)
  have H' := c_ H
  clear H
  go_wp2
  go_meet
  case rel => exact ⟨_, (Int.tmod a0 128), f0_, H', ⟨by first | omega | exact Ca _⟩, d0_⟩
 clear n0
 obtain ⟨kq, f0, rfl, HA, q0, ⟨mc1, rfl⟩⟩ := hcut
 rcases kq with _ | r0
 ·exact absurd HA.o (by simp [aZ.j0])
 have H := HA.o
 clear HA
 simp only [aZ.j0] at H
 have H' := c_ H
 clear H
 go_wp2
 go_loopg [0, 3, 4] r0 (fun kq v0 v3 v4 w' => ∃ (d0 : Int) (k0 : Int) (e0 : Int), v0 = .int .i64 d0 ∧ v3 = .int .i64 k0 ∧ v4 = .int .i64 e0 ∧ aa (aZ.l0 kq d0 k0 e0 = some r) ∧ aa (kq ≤ r0) ∧ cr w w')
 case atStart => exact ⟨(f0), (0), (0), f0_, f0_, f0_, H', ⟨Ca _⟩, d0_⟩
 clear H'
 obtain ⟨d0, k0, e0, rfl, rfl, rfl, HA, x0, ⟨m2, rfl⟩⟩ := hrel
 rcases gk with _ | k2
 ·exact absurd HA.o (by simp [aZ.l0])
 have H := HA.o
 clear HA
 simp only [aZ.l0] at H
 by_cases c4 : e0 < 7
 ·rw [Fa c4] at H
  have p0 := ya c4
  clear c4
  have H' := c_ H
  clear H
  go_wp2
  go_roundg k2
  case measure => have := q0.o; have := x0.o; omega
  case rel => exact ⟨(wrap64 (Int.tdiv d0 2)), (wrap64 ((wrap64 (2 * k0)) + (Int.tmod d0 2))), (wrap64 (e0 + 1)), f0_, f0_, f0_, H', ⟨by have := q0.o; have := x0.o; omega⟩, d0_⟩
 rw [Ga c4] at H
 have p0 := za c4
 clear c4
 obtain rfl := Ba H
 go_wp2
 go_ret
 exact ⟨f0_, d0_⟩
mutual
def aY.l0 : Nat → List Int → Int → Int → Option (List Int)
 | 0, _, _, _ => none
 | k + 1, x3, x4, x5 => if x5 ≥ 2 then (aY.l1 k x3 x4 x5 0) else (some x3)
def aY.l1 : Nat → List Int → Int → Int → Int → Option (List Int)
 | 0, _, _, _, _ => none
 | k + 1, x3, x4, x5, x6 => if x6 < 256 then ((aZ.f k x4).bind fun t545 => ((bn.f k 17 t545).bind fun t546 => (aY.l2 k x3 (wrap64 (x4 + 1)) x5 x6 t546 x6))) else (aY.l0 k x3 x4 (wrap64 (Int.tdiv x5 2)))
def aY.l2 : Nat → List Int → Int → Int → Int → Int → Int → Option (List Int)
 | 0, _, _, _, _, _, _ => none
 | k + 1, x3, x4, x5, x6, x7, x8 => if x8 < (wrap64 (x6 + x5)) then (if 0 ≤ (wrap64 (x8 + x5)) then (if (wrap64 (x8 + x5)) < (x3.length : Int) then (if 0 ≤ x8 then (if x8 < (x3.length : Int) then ((some (x3.set ((wrap64 (x8 + x5)) : Int).toNat (Int.tmod (wrap64 ((wrap64 ((rd x3 x8) - (Int.tmod (wrap64 (x7 * (rd x3 (wrap64 (x8 + x5))))) 3329))) + 3329)) 3329) : List Int)).bind fun y549 => (aY.l2 k (y549.set (x8 : Int).toNat (Int.tmod (wrap64 ((rd y549 x8) + (Int.tmod (wrap64 (x7 * (rd x3 (wrap64 (x8 + x5))))) 3329))) 3329)) x4 x5 x6 x7 (wrap64 (x8 + 1)))) else (none)) else (none)) else (none)) else (none)) else (aY.l1 k x3 x4 x5 (wrap64 (x6 + (wrap64 (2 * x5)))))
end
def aY.f (k : Nat) (l0 : List Int) : Option (List Int) := (ak.f k l0).bind fun t535 => (if t535 = true then ((some (([] : List Int) : List Int)).bind fun y539 => (if y539.length + l0.length < 17592186044416 then (aY.l0 k (y539 ++ l0) 1 128) else (none))) else (some (([] : List Int))))
theorem aY.mono_l : ∀ k, (∀ y0 y1 y2, LeO (aY.l0 k y0 y1 y2) (aY.l0 (k + 1) y0 y1 y2)) ∧ (∀ y0 y1 y2 y3, LeO (aY.l1 k y0 y1 y2 y3) (aY.l1 (k + 1) y0 y1 y2 y3)) ∧ (∀ y0 y1 y2 y3 y4 y5, LeO (aY.l2 k y0 y1 y2 y3 y4 y5) (aY.l2 (k + 1) y0 y1 y2 y3 y4 y5))
 | 0 => ⟨fun _ _ _ r h => by simp [aY.l0] at h, fun _ _ _ _ r h => by simp [aY.l1] at h, fun _ _ _ _ _ _ r h => by simp [aY.l2] at h⟩
 | k + 1 => by
  obtain ⟨ih0, ih1, ih2⟩ := aY.mono_l k
  refine ⟨?_, ?_, ?_⟩ <;> (intros; (first | unfold aY.l0 | unfold aY.l1 | unfold aY.l2); exact o6_ ih0 ih1 ih2 ak.mono bn.mono aZ.mono)
theorem aY.mono : ∀ a0 k, LeO (aY.f k a0) (aY.f (k + 1) a0) := by
 intro a0 k
 obtain ⟨ih0, ih1, ih2⟩ := aY.mono_l k
 unfold aY.f
 exact o6_ ih0 ih1 ih2 ak.mono bn.mono aZ.mono
theorem aY.calls (k : Nat) (A0 : Option Addr) (c0 : Nat) (l0 : List Int) (r : List Int) (w : World) (hr0 : Kd.C (Kd.int .i64) w A0 l0.length l0) (hc0 : l0.length ≤ c0) (h : aY.f k l0 = some r) :
  Calls Tryz.prog 26 #[.slice A0 l0.length c0] w fun e w' => ∃ N1 : Value, e = .returned (N1) ∧ Kd.R (Kd.int .i64) 3 w' w.heap.size (fun _ => True) N1 r ∧ Below w.heap.size w w' := by
 have p1 := c_ hr0
 have O1 := c_ hc0
 clear hr0 hc0
 have HB := c_ (Da w.heap.size w)
 delta aY.f at h
 have H := h
 clear h
 obtain ⟨q1, A2, H⟩ := bN_ H
 by_cases c3 : q1 = true
 ·subst c3
  replace H := iT_ H
  obtain ⟨T0, n0⟩ : ∃ y_ : List Int, y_ = (([] : List Int)) := ⟨_, rfl⟩
  first | replace H := yb_ n0 H | rw [← n0] at H
  have U0 := c_ n0
  clear n0
  obtain ⟨c4, H⟩ := iN_ H
  have r1 := c_ c4
  clear c4
  obtain ⟨t1, p0⟩ : ∃ y_ : List Int, y_ = (T0 ++ l0) := ⟨_, rfl⟩
  first | replace H := yb_ p0 H | rw [← p0] at H
  have V0 := c_ p0
  clear p0
  have H' := c_ H
  clear H
  go_enter Tryz.func26, Tryz.ntmps26
  go_wp2_with (first | (refine gp_ (k_ 11 Tryz.func57) (ak.calls _ _ _ _ _ _ (cR_ p1.o) O1.o A2.o) fun nd => ?_) | (refine lj_ 14 .i64 3 U0 fun y1 w5 W0 HB => ?_) | ((refine cH (b := .append) (xs := #[.tmp 14, .tmp 15]) rfl ?_); at_builtin; refine vv (Kd.int .i64) (w0 := w) w.heap.size rfl (.tmp 14) (.tmp 15) 45 3 (.int .i64 0) 8 rfl Tryz.underlying45 df rfl (by decide) (by omega) y1 T0 l0 _ _ _ (fun _ => True) (fun _ => False) rfl rfl ?aO ?aR (fun _ _ h => h) (fun _ h => h.elim) ?aF ?aB ?aS ?aL ?_; (case aR => exact cR_ (vf p1.o HB.o)); (case aB => exact (hB_)); (case aF => exact (fun _ _ => trivial)); (case aO => exact (rR_ W0.o)); (case aS => exact (au (hB_))); (case aL => have := r1.o; omega); intro J0 w7 ho hb hg hat; rw [← V0.o] at ho; obtain ⟨HB, X0⟩ := b_ (hb) <| c_ (ho); clear ho hb hg hat))
  go_loopg [4, 5] k (fun kq v4 v5 w' => ∃ (D0 : List Int) (E0 : Int) (f0 : Int), v4 = .int .i64 E0 ∧ v5 = .int .i64 f0 ∧ aa (aY.l0 kq D0 E0 f0 = some r) ∧ aa (kq ≤ k) ∧ aa (Kd.R (Kd.int .i64) 3 w' w.heap.size (fun _ => True) J0 D0) ∧ aa (Below w.heap.size w w'))
  case atStart => exact ⟨(t1), (1), (128), f0_, f0_, H', ⟨Ca _⟩, ⟨rR_ X0.o⟩, ⟨hB_⟩⟩
  clear H'
  obtain ⟨D0, E0, f0, rfl, rfl, HA, Q0, b0, HB⟩ := hrel
  rcases gk with _ | k1
  ·exact absurd HA.o (by simp [aY.l0])
  have H := HA.o
  clear HA
  simp only [aY.l0] at H
  by_cases c8 : f0 ≥ 2
  rotate_left
  ·rw [Ga c8] at H
   have z1 := za c8
   clear c8
   obtain rfl := Ba H
   go_wp2
   go_ret
   exact ⟨_, f1_, rR_ b0.o, hB_⟩
  rw [Fa c8] at H
  have z1 := ya c8
  clear c8
  have H' := c_ H
  clear H
  go_wp2
  go_loopg [4, 6] k1 (fun kq v4 v6 w' => ∃ (y0 : List Int) (x0 : Int) (k0 : Int), v4 = .int .i64 x0 ∧ v6 = .int .i64 k0 ∧ aa (aY.l1 kq y0 x0 f0 k0 = some r) ∧ aa (kq ≤ k1) ∧ aa (Kd.R (Kd.int .i64) 3 w' w.heap.size (fun _ => True) J0 y0) ∧ aa (Below w.heap.size w w'))
  case atStart => exact ⟨(D0), (E0), (0), f0_, f0_, H', ⟨Ca _⟩, ⟨rR_ b0.o⟩, ⟨hB_⟩⟩
  clear H'
  obtain ⟨y0, x0, k0, rfl, rfl, HA, R0, b0, HB⟩ := hrel
  rcases gk with _ | k2
  ·exact absurd HA.o (by simp [aY.l1])
  have H := HA.o
  clear HA
  simp only [aY.l1] at H
  by_cases c9 : k0 < 256
  rotate_left
  ·rw [Ga c9] at H
   have A1 := za c9
   clear c9
   have H' := c_ H
   clear H
   go_wp2
   go_roundg k2
   case measure => have := Q0.o; have := R0.o; omega
   case rel => exact ⟨(y0), (x0), (wrap64 (Int.tdiv f0 2)), f0_, f0_, H', ⟨by have := Q0.o; have := R0.o; omega⟩, ⟨rR_ b0.o⟩, ⟨hB_⟩⟩
  rw [Fa c9] at H
  have A1 := ya c9
  clear c9
  obtain ⟨U1, V1, H⟩ := bN_ H
  obtain ⟨B0, X1, H⟩ := bN_ H
  have H' := c_ H
  clear H
  go_wp2_with (first | (refine gp_ (k_ 28 Tryz.func59) (aZ.calls _ _ _ _ V1.o) fun nd => ?_) | (refine gp_ (k_ 29 Tryz.func58) (bn.calls _ _ _ _ _ X1.o) fun nd => ?_))
  go_loopg [8] k2 (fun kq v8 w' => ∃ (d0 : List Int) (a0 : Int), v8 = .int .i64 a0 ∧ aa (aY.l2 kq d0 (wrap64 (x0 + 1)) f0 k0 B0 a0 = some r) ∧ aa (kq ≤ k2) ∧ aa (Kd.R (Kd.int .i64) 3 w' w.heap.size (fun _ => True) J0 d0) ∧ aa (Below w.heap.size w w'))
  case atStart => exact ⟨(y0), (k0), f0_, H', ⟨Ca _⟩, ⟨rR_ b0.o⟩, ⟨hB_⟩⟩
  clear H'
  obtain ⟨d0, a0, rfl, HA, n1, b0, HB⟩ := hrel
  rcases gk with _ | k3
  ·exact absurd HA.o (by simp [aY.l2])
  have H := HA.o
  clear HA
  simp only [aY.l2] at H
  by_cases S0 : a0 < (wrap64 (k0 + f0))
  rotate_left
  ·rw [Ga S0] at H
   have Y0 := za S0
   clear S0
   have H' := c_ H
   clear H
   go_wp2
   go_roundg k3
   case measure => have := Q0.o; have := R0.o; have := n1.o; omega
   case rel => exact ⟨(d0), ((wrap64 (x0 + 1))), (wrap64 (k0 + (wrap64 (2 * f0)))), f0_, f0_, H', ⟨by have := Q0.o; have := R0.o; have := n1.o; omega⟩, ⟨rR_ b0.o⟩, ⟨hB_⟩⟩
  rw [Fa S0] at H
  have Y0 := ya S0
  clear S0
  obtain ⟨e0, C0⟩ : ∃ j_ : Int, (wrap64 (a0 + f0)) = j_ := ⟨_, rfl⟩
  first | rw [C0] at H | simp only [C0] at H
  have B1 : (IntKind.i64.wrap (a0 + f0)) = e0 := (bq _).trans C0
  obtain ⟨P1, H⟩ := iD_ H
  obtain ⟨Q1, H⟩ := iD_ H
  obtain ⟨R1, H⟩ := iD_ H
  obtain ⟨S1, H⟩ := iD_ H
  obtain ⟨F0, q0⟩ : ∃ y_ : List Int, y_ = (d0.set ((e0) : Int).toNat (Int.tmod (wrap64 ((wrap64 ((rd d0 a0) - (Int.tmod (wrap64 (B0 * (rd d0 (e0)))) 3329))) + 3329)) 3329)) := ⟨_, rfl⟩
  first | replace H := yb_ q0 H | rw [← q0] at H
  have I0 := c_ q0
  clear q0
  obtain ⟨C1, r0⟩ : ∃ y_ : List Int, y_ = (F0.set (a0 : Int).toNat (Int.tmod (wrap64 ((rd F0 a0) + (Int.tmod (wrap64 (B0 * (rd d0 (e0)))) 3329))) 3329)) := ⟨_, rfl⟩
  first | replace H := yb_ r0 H | rw [← r0] at H
  have Z0 := c_ r0
  clear r0
  have H' := c_ H
  clear H
  obtain ⟨Y1, Z1, D1⟩ := uY b0.o
  subst D1
  have K0 : 0 ≤ ((e0) : Int) := oD_
  have L0 : (e0) < (d0.length : Int) := oD_
  obtain ⟨b1, E1, G0⟩ := uZ (uX b0.o).2.2 (e0) K0 L0
  cases E1
  replace K0 := Aa K0
  replace L0 := Aa L0
  have M0 : 0 ≤ (a0 : Int) := oD_
  have N0 : a0 < (d0.length : Int) := oD_
  obtain ⟨c1, F1, H0⟩ := uZ (uX b0.o).2.2 a0 M0 N0
  obtain rfl : b1 = c1 := (by injection F1)
  replace M0 := Aa M0
  replace N0 := Aa N0
  have G1 : 0 ≤ ((e0) : Int) := oD_
  have H1 : ((e0) : Int) < ((d0.length : Int) : Int) := oD_
  obtain ⟨go18, b2, e1, f1, gl18, cl18, HG18⟩ := vq b0.o (by omega)
  (first | cases e1 | (injection e1 with ea_ en_ ec_; (first | subst ea_ | (injection ea_ with ea_; subst ea_)); subst ec_; clear en_))
  have g1 := c_ f1
  have GG18 := c_ HG18
  clear f1 gl18 HG18
  (first | simp only [cj] at G0 | skip)
  (first | simp only [cj] at H0 | skip)
  obtain ⟨I1, hf18_0⟩ := vc 0 b0.o ((e0) : Int) G1 H1
  replace G1 := Aa G1
  replace H1 := Aa H1
  have HP21 := vm b0.o ((e0) : Int) (Int.tmod (wrap64 ((wrap64 ((rd d0 a0) - (Int.tmod (wrap64 (B0 * (rd d0 (e0)))) 3329))) + 3329)) 3329)
  go_wp2_with (first | ((refine cx (t := 3) (p := 61) rfl ?_); refine st_ 3 61 HP21 I0 g1 fun g2 hw hp_ hg HBn => ?_; obtain ⟨b0, HB⟩ := b_ (hp_) <| c_ HBn.o; clear hg hw hp_; have O0 : 0 ≤ (a0 : Int) := oD_; have P0 : a0 < (F0.length : Int) := (by have h_ : (a0 : Int) < ((d0.length : Int) : Int) := oD_; first | (have e_ := (uX b0.o).1; omega) | simpa only [I0.o, List.length_set] using h_); have ql550 : ((a0 : Int) < ((d0.length : Int) : Int)) = True := Aa oD_; obtain ⟨i1, J1, j0⟩ := uZ (uX b0.o).2.2 a0 O0 P0; obtain rfl : (⟨go18, 0, none⟩ : Addr) = i1 := (by injection J1); (first | simp only [cj] at j0 | simp only [pQ] at j0 | simp only [Addr.add, Nat.zero_add] at j0 | skip); replace O0 := Aa O0; replace P0 := Aa P0; have K1 : 0 ≤ (a0 : Int) := oD_; have L1 : (a0 : Int) < ((d0.length : Int) : Int) := oD_; obtain ⟨M1, hf19_0⟩ := vc 0 b0.o (a0 : Int) K1 L1; replace K1 := Aa K1; replace L1 := Aa L1; obtain ⟨T1, hz23_⟩ := vc 0 b0.o (a0 : Int) oD_ oD_; have HP23 := vm b0.o (a0 : Int) (Int.tmod (wrap64 ((rd F0 a0) + (Int.tmod (wrap64 (B0 * (rd d0 (e0)))) 3329))) 3329)) | ((refine cx (t := 3) (p := 71) rfl ?_); refine st_ 3 71 HP23 Z0 g1 fun i2 hw hp_ hg HBn => ?_; obtain ⟨b0, HB⟩ := b_ (hp_) <| c_ HBn.o; clear hg hw hp_))
  go_roundg k3
  case measure => have := Q0.o; have := R0.o; have := n1.o; omega
  case rel => exact ⟨(C1), (wrap64 (a0 + 1)), f0_, H', ⟨by have := Q0.o; have := R0.o; have := n1.o; omega⟩, ⟨rR_ b0.o⟩, ⟨hB_⟩⟩
 ·replace c3 := Ea c3
  subst c3
  replace H := iF_ H
  obtain ⟨c2, v0⟩ : ∃ y_ : List Int, y_ = (([] : List Int)) := ⟨_, rfl⟩
  first | replace H := yb_ v0 H | rw [← v0] at H
  have j1 := c_ v0
  clear v0
  obtain rfl := Ba H
  go_enter Tryz.func26, Tryz.ntmps26
  go_wp2_with (first | (refine gp_ (k_ 11 Tryz.func57) (ak.calls _ _ _ _ _ _ (cR_ p1.o) O1.o A2.o) fun nd => ?_) | (refine lj_ 13 .i64 3 j1 fun f2 j2 m1 HB => ?_))
  go_ret
  exact ⟨_, f1_, rR_ m1.o, hB_⟩
def ay.l0 : Nat → Int → Int → Int → Option (Int)
 | 0, _, _, _ => none
 | k + 1, x0, x3, x4 => if x4 < x0 then (ay.l0 k x0 (wrap64 (2 * x3)) (wrap64 (x4 + 1))) else (some x3)
def ay.f (k : Nat) (a0 : Int) : Option (Int) := ay.l0 k a0 1 0
theorem ay.mono_l : ∀ k, (∀ y0 y1 y2, LeO (ay.l0 k y0 y1 y2) (ay.l0 (k + 1) y0 y1 y2))
 | 0 => fun _ _ _ r h => by simp [ay.l0] at h
 | k + 1 => by
  have ih0 := ay.mono_l k
  intros; unfold ay.l0; exact o1_ ih0
theorem ay.mono : ∀ a0 k, LeO (ay.f k a0) (ay.f (k + 1) a0) := by
 intro a0 k
 have ih0 := ay.mono_l k
 unfold ay.f
 exact o1_ ih0
theorem ay.calls (k : Nat) (a0 : Int) (r : Int) (w : World) (h : ay.f k a0 = some r) :
  Calls Tryz.prog 98 #[.int .i64 a0] w fun e w' => e = .returned (.int .i64 r) ∧ cr w w' := by
 delta ay.f at h
 have H := h
 clear h
 have H' := c_ H
 clear H
 go_enter Tryz.func98, Tryz.ntmps98
 go_wp2
 go_loopg [3, 4] k (fun kq v3 v4 w' => ∃ (d0 : Int) (b0 : Int), v3 = .int .i64 d0 ∧ v4 = .int .i64 b0 ∧ aa (ay.l0 kq a0 d0 b0 = some r) ∧ aa (kq ≤ k) ∧ cr w w')
 case atStart => exact ⟨(1), (0), f0_, f0_, H', ⟨Ca _⟩, d0_⟩
 clear H'
 obtain ⟨d0, b0, rfl, rfl, HA, f0, ⟨m1, rfl⟩⟩ := hrel
 rcases gk with _ | k1
 ·exact absurd HA.o (by simp [ay.l0])
 have H := HA.o
 clear HA
 simp only [ay.l0] at H
 by_cases c2 : b0 < a0
 ·rw [Fa c2] at H
  have e0 := ya c2
  clear c2
  have H' := c_ H
  clear H
  go_wp2
  go_roundg k1
  case measure => have := f0.o; omega
  case rel => exact ⟨(wrap64 (2 * d0)), (wrap64 (b0 + 1)), f0_, f0_, H', ⟨by have := f0.o; omega⟩, d0_⟩
 rw [Ga c2] at H
 have e0 := za c2
 clear c2
 obtain rfl := Ba H
 go_wp2
 go_ret
 exact ⟨f0_, d0_⟩
end Go.Proofs.YtmdlpmddljbkeaaGreatDoor.P
