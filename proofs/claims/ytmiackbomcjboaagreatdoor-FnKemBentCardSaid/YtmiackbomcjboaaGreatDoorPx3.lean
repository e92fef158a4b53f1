-- printed texts of this session, regrouped
import Derived.Test.YtmiackbomcjboaaGreatDoorPx2
namespace Go.Proofs.YtmiackbomcjboaaGreatDoor.P
open Go.RowKit YtmiackbomcjboaaGreatDoorW.PrintWords YtmiackbomcjboaaGreatDoorW.PrintLast YtmiackbomcjboaaGreatDoorW.PrintMore
open Kd
attribute [local go_sem] d9 eg eV eU dK dL d8 eh
set_option linter.unusedVariables false
set_option linter.unusedSimpArgs false
set_option maxHeartbeats 8000000
set_option maxRecDepth 100000
mutual
def ac.l0 : Nat → List Int → List Int → Int → List Int → Int → Option (List Int)
 | 0, _, _, _, _, _ => none
 | k + 1, x0, x1, x2, x7, x8 => if x8 < 5 then (if 0 ≤ x8 then (if x8 < (x0.length : Int) then (if 0 ≤ (wrap64 (x8 + 5)) then (if (wrap64 (x8 + 5)) < (x0.length : Int) then (if 0 ≤ (wrap64 (x8 + 10)) then (if (wrap64 (x8 + 10)) < (x0.length : Int) then (if 0 ≤ (wrap64 (x8 + 15)) then (if (wrap64 (x8 + 15)) < (x0.length : Int) then (if 0 ≤ (wrap64 (x8 + 20)) then (if (wrap64 (x8 + 20)) < (x0.length : Int) then (if x8 < (x7.length : Int) then (ac.l0 k x0 x1 x2 (x7.set (x8 : Int).toNat (Go.bits .xor .u64 (Go.bits .xor .u64 (Go.bits .xor .u64 (Go.bits .xor .u64 (rd x0 x8) (rd x0 (wrap64 (x8 + 5)))) (rd x0 (wrap64 (x8 + 10)))) (rd x0 (wrap64 (x8 + 15)))) (rd x0 (wrap64 (x8 + 20))))) (wrap64 (x8 + 1))) else (none)) else (none)) else (none)) else (none)) else (none)) else (none)) else (none)) else (none)) else (none)) else (none)) else (none)) else (if 25 ≤ 35184372088832 then (ac.l1 k x0 x1 x2 x7 (List.replicate 25 0) 0) else (none))
def ac.l1 : Nat → List Int → List Int → Int → List Int → List Int → Int → Option (List Int)
 | 0, _, _, _, _, _, _ => none
 | k + 1, x0, x1, x2, x7, x9, x10 => if x10 < 5 then (if 0 ≤ (Int.tmod (wrap64 (x10 + 4)) 5) then (if (Int.tmod (wrap64 (x10 + 4)) 5) < (x7.length : Int) then (if 0 ≤ (Int.tmod (wrap64 (x10 + 1)) 5) then (if (Int.tmod (wrap64 (x10 + 1)) 5) < (x7.length : Int) then ((bC.f k (rd x7 (Int.tmod (wrap64 (x10 + 1)) 5)) 1).bind fun t282 => (ac.l2 k x0 x1 x2 x7 x9 x10 (Go.bits .xor .u64 (rd x7 (Int.tmod (wrap64 (x10 + 4)) 5)) t282) 0)) else (none)) else (none)) else (none)) else (none)) else (if 25 ≤ 35184372088832 then (ac.l3 k x2 x9 (List.replicate 25 0) 0) else (none))
def ac.l2 : Nat → List Int → List Int → Int → List Int → List Int → Int → Int → Int → Option (List Int)
 | 0, _, _, _, _, _, _, _, _ => none
 | k + 1, x0, x1, x2, x7, x9, x10, x11, x12 => if x12 < 5 then (if 0 ≤ (wrap64 (x10 + (wrap64 (5 * x12)))) then (if (wrap64 (x10 + (wrap64 (5 * x12)))) < (x0.length : Int) then (if (wrap64 (x10 + (wrap64 (5 * x12)))) < (x1.length : Int) then ((bC.f k (Go.bits .xor .u64 (rd x0 (wrap64 (x10 + (wrap64 (5 * x12))))) x11) (rd x1 (wrap64 (x10 + (wrap64 (5 * x12)))))).bind fun t285 => (if 0 ≤ (wrap64 (x12 + (wrap64 (5 * (Int.tmod (wrap64 ((wrap64 (2 * x10)) + (wrap64 (3 * x12)))) 5))))) then (if (wrap64 (x12 + (wrap64 (5 * (Int.tmod (wrap64 ((wrap64 (2 * x10)) + (wrap64 (3 * x12)))) 5))))) < (x9.length : Int) then (ac.l2 k x0 x1 x2 x7 (x9.set ((wrap64 (x12 + (wrap64 (5 * (Int.tmod (wrap64 ((wrap64 (2 * x10)) + (wrap64 (3 * x12)))) 5))))) : Int).toNat t285) x10 x11 (wrap64 (x12 + 1))) else (none)) else (none))) else (none)) else (none)) else (none)) else (ac.l1 k x0 x1 x2 x7 x9 (wrap64 (x10 + 1)))
def ac.l3 : Nat → Int → List Int → List Int → Int → Option (List Int)
 | 0, _, _, _, _ => none
 | k + 1, x2, x9, x13, x14 => if x14 < 5 then (ac.l4 k x2 x9 x13 x14 0) else (if 0 < (x13.length : Int) then (some (x13.set (0 : Int).toNat (Go.bits .xor .u64 (rd x13 0) x2))) else (none))
def ac.l4 : Nat → Int → List Int → List Int → Int → Int → Option (List Int)
 | 0, _, _, _, _, _ => none
 | k + 1, x2, x9, x13, x14, x15 => if x15 < 5 then (if 0 ≤ (wrap64 (x14 + (wrap64 (5 * x15)))) then (if (wrap64 (x14 + (wrap64 (5 * x15)))) < (x9.length : Int) then (if 0 ≤ (wrap64 ((Int.tmod (wrap64 (x14 + 1)) 5) + (wrap64 (5 * x15)))) then (if (wrap64 ((Int.tmod (wrap64 (x14 + 1)) 5) + (wrap64 (5 * x15)))) < (x9.length : Int) then (if 0 ≤ (wrap64 ((Int.tmod (wrap64 (x14 + 2)) 5) + (wrap64 (5 * x15)))) then (if (wrap64 ((Int.tmod (wrap64 (x14 + 2)) 5) + (wrap64 (5 * x15)))) < (x9.length : Int) then (if (wrap64 (x14 + (wrap64 (5 * x15)))) < (x13.length : Int) then (ac.l4 k x2 x9 (x13.set ((wrap64 (x14 + (wrap64 (5 * x15)))) : Int).toNat (Go.bits .xor .u64 (rd x9 (wrap64 (x14 + (wrap64 (5 * x15))))) (Go.bits .and .u64 (IntKind.u64.wrap (18446744073709551615 - (rd x9 (wrap64 ((Int.tmod (wrap64 (x14 + 1)) 5) + (wrap64 (5 * x15))))))) (rd x9 (wrap64 ((Int.tmod (wrap64 (x14 + 2)) 5) + (wrap64 (5 * x15)))))))) x14 (wrap64 (x15 + 1))) else (none)) else (none)) else (none)) else (none)) else (none)) else (none)) else (none)) else (ac.l3 k x2 x9 x13 (wrap64 (x14 + 1)))
end
def ac.f (k : Nat) (l0 : List Int) (l1 : List Int) (a2 : Int) : Option (List Int) := if 5 ≤ 35184372088832 then (ac.l0 k l0 l1 a2 (List.replicate 5 0) 0) else (none)
theorem ac.mono_l : ∀ k, (∀ y0 y1 y2 y3 y4, LeO (ac.l0 k y0 y1 y2 y3 y4) (ac.l0 (k + 1) y0 y1 y2 y3 y4)) ∧ (∀ y0 y1 y2 y3 y4 y5, LeO (ac.l1 k y0 y1 y2 y3 y4 y5) (ac.l1 (k + 1) y0 y1 y2 y3 y4 y5)) ∧ (∀ y0 y1 y2 y3 y4 y5 y6 y7, LeO (ac.l2 k y0 y1 y2 y3 y4 y5 y6 y7) (ac.l2 (k + 1) y0 y1 y2 y3 y4 y5 y6 y7)) ∧ (∀ y0 y1 y2 y3, LeO (ac.l3 k y0 y1 y2 y3) (ac.l3 (k + 1) y0 y1 y2 y3)) ∧ (∀ y0 y1 y2 y3 y4, LeO (ac.l4 k y0 y1 y2 y3 y4) (ac.l4 (k + 1) y0 y1 y2 y3 y4))
 | 0 => ⟨fun _ _ _ _ _ r h => by simp [ac.l0] at h, fun _ _ _ _ _ _ r h => by simp [ac.l1] at h, fun _ _ _ _ _ _ _ _ r h => by simp [ac.l2] at h, fun _ _ _ _ r h => by simp [ac.l3] at h, fun _ _ _ _ _ r h => by simp [ac.l4] at h⟩
 | k + 1 => by
  obtain ⟨ih0, ih1, ih2, ih3, ih4⟩ := ac.mono_l k
  refine ⟨?_, ?_, ?_, ?_, ?_⟩ <;> (intros; (first | unfold ac.l0 | unfold ac.l1 | unfold ac.l2 | unfold ac.l3 | unfold ac.l4); exact o6_ ih0 ih1 ih2 ih3 ih4 bC.mono)
theorem ac.mono : ∀ a0 a1 a2 k, LeO (ac.f k a0 a1 a2) (ac.f (k + 1) a0 a1 a2) := by
 intro a0 a1 a2 k
 obtain ⟨ih0, ih1, ih2, ih3, ih4⟩ := ac.mono_l k
 unfold ac.f
 exact o6_ ih0 ih1 ih2 ih3 ih4 bC.mono
def ac.T5 : Bool × List (List Nat × List Nat) := (true, [([], []), ([], []), ([], []), ([], []), ([2, 3], [2, 3]), ([4], [4]), ([], []), ([], []), ([7], [7]), ([6, 8], [6, 8]), ([9], [9]), ([5, 10], [5, 10]), ([], []), ([], []), ([13], [13]), ([12, 14], [12, 14]), ([15], [15]), ([11, 16], [11, 16]), ([], []), ([], []), ([19], [19]), ([18, 20], [18, 20]), ([21], [21]), ([17, 22], [17, 22]), ([], []), ([], []), ([25], [25]), ([24, 26], [24, 26]), ([27], [27]), ([23, 28], [23, 28]), ([0, 1, 0, 1, 2, 3, 4, 5, 6, 7, 8, 9, 10, 11, 12, 13, 14, 15, 16, 17, 18, 19, 20, 21, 22, 23, 24, 25, 26, 27, 28, 29], [0, 1]), ([30, 29, 0, 1, 2, 3, 4, 5, 6, 7, 8, 9, 10, 11, 12, 13, 14, 15, 16, 17, 18, 19, 20, 21, 22, 23, 24, 25, 26, 27, 28, 29], [29, 30])])
def ac.B5 : List Nat := [0, 0, 0, 0, 12, 28, 0, 0, 128, 448, 960, 2044, 0, 0, 8192, 28672, 61440, 131068, 0, 0, 524288, 1835008, 3932160, 8388604, 0, 0, 33554432, 117440512, 251658240, 536870908, 1073741823, 2147483647]
theorem ac.tab5 : eH .any (fJ Tryz.f125 5) = ac.T5 := by kernel_rfl
theorem ac.bits5 : dw ac.T5.2 ac.B5 = true := by kernel_rfl
def ac.T10 : Bool × List (List Nat × List Nat) := (true, [([], []), ([], []), ([1], [1]), ([2], [2]), ([0, 3], [0, 3]), ([4], [4]), ([], []), ([], []), ([7], [7]), ([8], [8]), ([6, 9], [6, 9]), ([10], [10]), ([11], [11]), ([5, 12], [5, 12]), ([13, 12, 0, 1, 2, 3, 4, 5, 6, 7, 8, 9, 10, 11, 12, 13], [13])])
def ac.B10 : List Nat := [0, 0, 2, 6, 15, 31, 0, 0, 128, 384, 960, 1984, 4032, 8191, 16383]
theorem ac.tab10 : eH .any (fJ Tryz.f125 10) = ac.T10 := by kernel_rfl
theorem ac.bits10 : dw ac.T10.2 ac.B10 = true := by kernel_rfl
def ac.T14 : Bool × List (List Nat × List Nat) := (true, [([], []), ([], []), ([], []), ([2], [2]), ([], []), ([4], [4]), ([3, 5], [3, 5]), ([6], [6]), ([7], [7]), ([1, 8], [1, 8]), ([], []), ([], []), ([], []), ([12], [12]), ([11, 13], [11, 13]), ([10, 14], [10, 14]), ([15], [15]), ([], []), ([16, 17], [16, 17]), ([], []), ([], []), ([], []), ([21], [21]), ([20, 22], [20, 22]), ([19, 23], [19, 23]), ([24], [24]), ([18, 25], [18, 25]), ([0, 9, 0, 1, 2, 3, 4, 5, 6, 7, 8, 9, 10, 11, 12, 13, 14, 15, 16, 17, 18, 19, 20, 21, 22, 23, 24, 25, 26], [0, 9]), ([27, 26, 26, 0, 1, 2, 3, 4, 5, 6, 7, 8, 9, 10, 11, 12, 13, 14, 15, 16, 17, 18, 19, 20, 21, 22, 23, 24, 25, 26], [26, 27])])
def ac.B14 : List Nat := [0, 0, 0, 4, 0, 16, 60, 124, 252, 510, 0, 0, 0, 4096, 14336, 31744, 64512, 0, 261120, 0, 0, 0, 2097152, 7340032, 16252928, 33030144, 67107840, 134217727, 268435455]
theorem ac.tab14 : eH .any (fJ Tryz.f125 14) = ac.T14 := by kernel_rfl
theorem ac.bits14 : dw ac.T14.2 ac.B14 = true := by kernel_rfl
def ac.T22 : Bool × List (List Nat × List Nat) := (true, [([], []), ([], []), ([], []), ([2], [2]), ([1, 3], [1, 3]), ([], []), ([], []), ([], []), ([7], [7]), ([6, 8], [6, 8]), ([5, 9], [5, 9]), ([10], [10]), ([], []), ([], []), ([13], [13]), ([14], [14]), ([], []), ([16], [16]), ([15, 17], [15, 17]), ([12, 18], [12, 18]), ([19], [19]), ([20], [20]), ([], []), ([], []), ([23], [23]), ([24], [24]), ([], []), ([26], [26]), ([25, 27], [25, 27]), ([22, 28], [22, 28]), ([29], [29]), ([21, 30], [21, 30]), ([11, 31], [11, 31]), ([0, 4, 0, 1, 2, 3, 4, 5, 6, 7, 8, 9, 10, 11, 12, 13, 14, 15, 16, 17, 18, 19, 20, 21, 22, 23, 24, 25, 26, 27, 28, 29, 30, 31, 32], [0, 4]), ([33, 32, 0, 1, 2, 3, 4, 5, 6, 7, 8, 9, 10, 11, 12, 13, 14, 15, 16, 17, 18, 19, 20, 21, 22, 23, 24, 25, 26, 27, 28, 29, 30, 31, 32], [32, 33])])
def ac.B22 : List Nat := [0, 0, 0, 4, 14, 0, 0, 0, 128, 448, 992, 2016, 0, 0, 8192, 24576, 0, 65536, 253952, 520192, 1044480, 2093056, 0, 0, 8388608, 25165824, 0, 67108864, 260046848, 532676608, 1069547520, 2147479552, 4294967264, 8589934591, 17179869183]
theorem ac.tab22 : eH .any (fJ Tryz.f125 22) = ac.T22 := by kernel_rfl
theorem ac.bits22 : dw ac.T22.2 ac.B22 = true := by kernel_rfl
theorem ac.calls (k : Nat) (A0 : Option Addr) (c0 : Nat) (l0 : List Int) (A1 : Option Addr) (c1 : Nat) (l1 : List Int) (a2 : Int) (r : List Int) (w : World) (hr0 : Kd.C (Kd.int .u64) w A0 l0.length l0) (hc0 : l0.length ≤ c0) (hr1 : Kd.C (Kd.int .i64) w A1 l1.length l1) (hc1 : l1.length ≤ c1) (h : ac.f k l0 l1 a2 = some r) :
  Calls Tryz.prog 125 #[.slice A0 l0.length c0, .slice A1 l1.length c1, .int .u64 a2] w fun e w' => ∃ T4 : Value, e = .returned (T4) ∧ Kd.R (Kd.int .u64) 111 w' w.heap.size (fun _ => True) T4 r ∧ Below w.heap.size w w' := by
 have N2 := c_ hr0
 have v6 := c_ hc0
 clear hr0 hc0
 have Q5 := c_ hr1
 have w6 := c_ hc1
 clear hr1 hc1
 have HB := c_ (Da w.heap.size w)
 delta ac.f at h
 have H := h
 clear h
 obtain ⟨c4, H⟩ := iN_ H
 have R5 := Aa c4
 have S5 := ya c4
 clear c4
 obtain ⟨M3, W0⟩ : ∃ y_ : List Int, y_ = (List.replicate 5 0) := ⟨_, rfl⟩
 first | replace H := yb_ W0 H | rw [← W0] at H
 have T1 := c_ W0
 clear W0
 have H' := c_ H
 clear H
 go_enter Tryz.func125, Tryz.ntmps125
 go_wp2_with (first | ((refine cQ (N := 16) rfl ?_); refine vs (Kd.int .u64) _ 111 rfl (N := 16) rfl 109 _ _ rfl 5 rfl rfl Tryz.underlying109 (.int .u64 0) 8 jH rfl (by decide) (by omega) 0 (ok := fun _ => True) (okp := fun _ => True) rfl (fun _ hk => hk) trivial (by omega) (by omega) (Da _ _) (Ca _) ?_; intro Y1 w5 T2 hb hg_ hnew_; clear hg_ hnew_; (first | rw [← T1.o] at T2 | (simp only [Int.reduceToNat] at T2; rw [← T1.o] at T2)); obtain ⟨U2, HB⟩ := b_ (uY T2 (av (hB_))) <| sB_; clear hb T2))
 go_loopg [8] k (fun kq v8 w' => ∃ (k0 : List Int) (d0 : Int), v8 = .int .i64 d0 ∧ aa (ac.l0 kq l0 l1 a2 k0 d0 = some r) ∧ aa (kq ≤ k) ∧ aa (Kd.R (Kd.int .u64) 111 w' w.heap.size (fun _ => True) Y1 k0) ∧ aa (Below w.heap.size w w'))
 case atStart => exact ⟨(M3), (0), f0_, H', ⟨Ca _⟩, ⟨rR_ U2.o⟩, ⟨hB_⟩⟩
 clear H'
 obtain ⟨k0, d0, rfl, HA, K1, b0, HB⟩ := hrel
 rcases gk with _ | k1
 ·exact absurd HA.o (by simp [ac.l0])
 have H := HA.o
 clear HA
 simp only [ac.l0] at H
 by_cases c7 : d0 < 5
 ·rw [Fa c7] at H
  have N3 := ya c7
  clear c7
  obtain ⟨T5, H⟩ := iD_ H
  obtain ⟨U5, H⟩ := iD_ H
  obtain ⟨L0, z1⟩ : ∃ j_ : Int, (wrap64 (d0 + 5)) = j_ := ⟨_, rfl⟩
  first | rw [z1] at H | simp only [z1] at H
  have O3 : (IntKind.i64.wrap (d0 + 5)) = L0 := (bB _).trans z1
  obtain ⟨U4, H⟩ := iD_ H
  obtain ⟨V4, H⟩ := iD_ H
  obtain ⟨M0, B1⟩ : ∃ j_ : Int, (wrap64 (d0 + 10)) = j_ := ⟨_, rfl⟩
  first | rw [B1] at H | simp only [B1] at H
  have P3 : (IntKind.i64.wrap (d0 + 10)) = M0 := (bB _).trans B1
  obtain ⟨W4, H⟩ := iD_ H
  obtain ⟨X4, H⟩ := iD_ H
  obtain ⟨N0, C1⟩ : ∃ j_ : Int, (wrap64 (d0 + 15)) = j_ := ⟨_, rfl⟩
  first | rw [C1] at H | simp only [C1] at H
  have Q3 : (IntKind.i64.wrap (d0 + 15)) = N0 := (bB _).trans C1
  obtain ⟨Y4, H⟩ := iD_ H
  obtain ⟨Z4, H⟩ := iD_ H
  obtain ⟨O0, D1⟩ : ∃ j_ : Int, (wrap64 (d0 + 20)) = j_ := ⟨_, rfl⟩
  first | rw [D1] at H | simp only [D1] at H
  have R3 : (IntKind.i64.wrap (d0 + 20)) = O0 := (bB _).trans D1
  obtain ⟨b5, H⟩ := iD_ H
  obtain ⟨c5, H⟩ := iD_ H
  obtain ⟨e5, H⟩ := iD_ H
  obtain ⟨S3, X0⟩ : ∃ y_ : List Int, y_ = (k0.set (d0 : Int).toNat (Go.bits .xor .u64 (Go.bits .xor .u64 (Go.bits .xor .u64 (Go.bits .xor .u64 (rd l0 d0) (rd l0 (L0))) (rd l0 (M0))) (rd l0 (N0))) (rd l0 (O0)))) := ⟨_, rfl⟩
  first | replace H := yb_ X0 H | rw [← X0] at H
  have V2 := c_ X0
  clear X0
  have H' := c_ H
  clear H
  try go_wp2
  obtain ⟨b0, HB⟩ := b_ (vh b0.o) <| c_ (bE HB.o)
  have Z1 : 0 ≤ (d0 : Int) := oD_
  have b2 : d0 < (l0.length : Int) := oD_
  obtain ⟨x0, T3, y0⟩ := uX N2.o d0 Z1 b2
  have L1 := y0
  cases T3
  replace y0 := hc_ y0
  replace Z1 := Aa Z1
  replace b2 := Aa b2
  have c2 : 0 ≤ ((L0) : Int) := oD_
  have f2 : (L0) < (l0.length : Int) := oD_
  obtain ⟨X2, U3, B0⟩ := uX N2.o (L0) c2 f2
  have M1 := B0
  obtain rfl : x0 = X2 := (by injection U3)
  replace B0 := hc_ B0
  replace c2 := Aa c2
  replace f2 := Aa f2
  have g2 : 0 ≤ ((M0) : Int) := oD_
  have i2 : (M0) < (l0.length : Int) := oD_
  obtain ⟨Y2, V3, C0⟩ := uX N2.o (M0) g2 i2
  have N1 := C0
  obtain rfl : x0 = Y2 := (by injection V3)
  replace C0 := hc_ C0
  replace g2 := Aa g2
  replace i2 := Aa i2
  have j2 : 0 ≤ ((N0) : Int) := oD_
  have m2 : (N0) < (l0.length : Int) := oD_
  obtain ⟨Z2, W3, D0⟩ := uX N2.o (N0) j2 m2
  have O1 := D0
  obtain rfl : x0 = Z2 := (by injection W3)
  replace D0 := hc_ D0
  replace j2 := Aa j2
  replace m2 := Aa m2
  have n2 : 0 ≤ ((O0) : Int) := oD_
  have p2 : (O0) < (l0.length : Int) := oD_
  obtain ⟨b3, X3, E0⟩ := uX N2.o (O0) n2 p2
  have P1 := E0
  obtain rfl : x0 = b3 := (by injection X3)
  replace E0 := hc_ E0
  replace n2 := Aa n2
  replace p2 := Aa p2
  have Y3 : 0 ≤ (d0 : Int) := oD_
  have Z3 : (d0 : Int) < ((k0.length : Int) : Int) := oD_
  obtain ⟨go23, V5, c3, e3, gl23, cl23, HG23⟩ := vm b0.o (by omega)
  (first | cases c3 | (injection c3 with ea_ en_ ec_; (first | subst ea_ | (injection ea_ with ea_; subst ea_)); subst ec_; clear en_))
  have b4 := c_ e3
  have GG23 := c_ HG23
  clear e3 gl23 HG23
  obtain ⟨q2, hf23_0⟩ := uZ 0 b0.o (d0 : Int) Y3 Z3
  replace Y3 := Aa Y3
  replace Z3 := Aa Z3
  have HP25 := vG b0.o (d0 : Int) (Go.bits .xor .u64 (Go.bits .xor .u64 (Go.bits .xor .u64 (Go.bits .xor .u64 (rd l0 d0) (rd l0 (L0))) (rd l0 (M0))) (rd l0 (N0))) (rd l0 (O0)))
  rw [← V2.o] at HP25
  have HQ25 := c_ HP25
  clear HP25
  refine eI (n := 32) (S := fun w' => w'.cell? (x0.add (d0).toNat) = some (.int .u64 (rd l0 d0)) ∧ w'.cell? (x0.add ((L0)).toNat) = some (.int .u64 (rd l0 (L0))) ∧ w'.cell? (x0.add ((M0)).toNat) = some (.int .u64 (rd l0 (M0))) ∧ w'.cell? (x0.add ((N0)).toNat) = some (.int .u64 (rd l0 (N0))) ∧ w'.cell? (x0.add ((O0)).toNat) = some (.int .u64 (rd l0 (O0)))) (ds := [31]) (bb_ 32 0) (by kernel_rfl) rfl rfl ⟨(hc_ L1), (hc_ M1), (hc_ N1), (hc_ O1), (hc_ P1)⟩ (fun hHeld => ?_); refine cW ac.tab5 ac.bits5 (fun HT_ HW_ => ?_)
  generalize wr.drew = y6 at b0 HB GG23 HQ25 hf23_0 q2 y0 B0 C0 D0 E0 hHeld ⊢
  refine pT_ 0 21 32 1 ?_
  refine pT_ 1 22 32 3 ?_
  refine pT_ 2 23 32 7 ?_
  refine pT_ 3 24 32 15 ?_
  refine pT_ 4 25 32 31 ?_
  refine pT_ 6 27 32 95 ?_
  refine pT_ 7 28 32 223 ?_
  refine pT_ 8 29 32 479 ?_
  refine pT_ 9 30 32 991 ?_
  refine pT_ 12 33 32 5087 ?_
  refine pT_ 13 34 32 13279 ?_
  refine pT_ 14 35 32 29663 ?_
  refine pT_ 15 36 32 62431 ?_
  refine pT_ 18 39 32 324575 ?_
  refine pT_ 19 40 32 848863 ?_
  refine pT_ 20 41 32 1897439 ?_
  refine pT_ 21 42 32 3994591 ?_
  refine pT_ 24 45 32 20771807 ?_
  refine pT_ 25 46 32 54326239 ?_
  refine pT_ 26 47 32 121435103 ?_
  refine pT_ 27 48 32 255652831 ?_
  refine tS_ 5 26 (bb_ 32 255652863) (bF HT_.o HW_.o (by kernel_rfl)) hHeld ?_
  refine tS_ 10 31 (bb_ 32 255653887) (bF HT_.o HW_.o (by kernel_rfl)) hHeld ?_
  refine pT_ 11 32 32 255655935 ?_
  refine tS_ 16 37 (bb_ 32 255721471) (bF HT_.o HW_.o (by kernel_rfl)) hHeld ?_
  refine pT_ 17 38 32 255852543 ?_
  refine tS_ 22 43 (bb_ 32 260046847) (bF HT_.o HW_.o (by kernel_rfl)) hHeld ?_
  refine pT_ 23 44 32 268435455 ?_
  refine tS_ 28 49 (bb_ 32 536870911) (bF HT_.o HW_.o (by kernel_rfl)) hHeld ?_
  refine pT_ 29 50 32 1073741823 ?_
  refine pT_ 30 51 32 2147483647 ?_
  refine hZ (i := 31) (N := none) (bb_ 32 4294967295) rfl rfl (cO HT_.o (by kernel_rfl)) (by decide) (fun K hK => ?_)
  refine js (w1 := ?_) (by rfl) rfl ?_ ?_
  rotate_left
  ·go_simp
   rfl
  refine hK _ _ ?_
  clear hK K
  refine fK (dN HT_.o (by kernel_rfl)) ?_
  try go_wp2
  go_roundg k1
  case measure => have := K1.o; omega
  case rel => exact ⟨(S3), (wrap64 (d0 + 1)), f0_, H', ⟨by have := K1.o; omega⟩, ⟨rR_ HQ25.o⟩, ⟨hS_ b4.o⟩⟩
 rw [Ga c7] at H
 have N3 := za c7
 clear c7
 obtain ⟨e4, H⟩ := iN_ H
 have f5 := Aa e4
 have i5 := ya e4
 clear e4
 obtain ⟨f4, Y0⟩ : ∃ y_ : List Int, y_ = (List.replicate 25 0) := ⟨_, rfl⟩
 first | replace H := yb_ Y0 H | rw [← Y0] at H
 have U1 := c_ Y0
 clear Y0
 have H' := c_ H
 clear H
 go_wp2_with (first | ((refine cQ (N := 52) rfl ?_); refine vs (Kd.int .u64) _ 111 rfl (N := 52) rfl 109 _ _ rfl 25 rfl rfl Tryz.underlying109 (.int .u64 0) 8 jH rfl (by decide) (by omega) 0 (ok := fun _ => True) (okp := fun _ => True) rfl (fun _ hk => hk) trivial (by omega) (by omega) (Da _ _) (Ca _) ?_; intro P0 z6 t1 hb hg_ hnew_; clear hg_ hnew_; (first | rw [← U1.o] at t1 | (simp only [Int.reduceToNat] at t1; rw [← U1.o] at t1)); obtain ⟨b0, f3, HB⟩ := b_ (vg (rR_ b0.o) (vd t1) hb) <| b_ (uY (vq t1 (vF (rR_ b0.o))) (av (hB_))) <| sB_; clear hb t1))
 go_loopg [10] k1 (fun kq W5 w' => ∃ (f0 : List Int) (n0 : Int), W5 = .int .i64 n0 ∧ aa (ac.l1 kq l0 l1 a2 k0 f0 n0 = some r) ∧ aa (kq ≤ k1) ∧ aa (Kd.R (Kd.int .u64) 111 w' w.heap.size (fun k_ => some k_ ≠ (P0 : Value).ownBlock) Y1 k0) ∧ aa (Kd.R (Kd.int .u64) 111 w' w.heap.size (fun k_ => some k_ ≠ (Y1 : Value).ownBlock) P0 f0) ∧ aa (Below w.heap.size w w'))
 case atStart => exact ⟨(f4), (0), f0_, H', ⟨Ca _⟩, ⟨by refine kR_ ?_; exact uW b0.o (fun _ hk => hk.2)⟩, ⟨by refine kR_ ?_; exact uW f3.o (fun _ hk => hk.2)⟩, ⟨hB_⟩⟩
 clear H'
 obtain ⟨f0, n0, rfl, HA, V1, b0, a0, HB⟩ := hrel
 rcases gk with _ | k2
 ·exact absurd HA.o (by simp [ac.l1])
 have H := HA.o
 clear HA
 simp only [ac.l1] at H
 by_cases O2 : n0 < 5
 ·rw [Fa O2] at H
  have g3 := ya O2
  clear O2
  obtain ⟨Q0, E1⟩ : ∃ j_ : Int, (Int.tmod (wrap64 (n0 + 4)) 5) = j_ := ⟨_, rfl⟩
  first | rw [E1] at H | simp only [E1] at H
  obtain ⟨n5, H⟩ := iD_ H
  obtain ⟨p5, H⟩ := iD_ H
  obtain ⟨T0, F1⟩ : ∃ j_ : Int, (Int.tmod (wrap64 (n0 + 1)) 5) = j_ := ⟨_, rfl⟩
  first | rw [F1] at H | simp only [F1] at H
  obtain ⟨q5, H⟩ := iD_ H
  obtain ⟨s5, H⟩ := iD_ H
  obtain ⟨Q1, X5, H⟩ := bN_ H
  have H' := c_ H
  clear H
  try go_wp2
  obtain ⟨b0, a0, HB⟩ := b_ (vh b0.o) <| b_ (vh a0.o) <| c_ (bE HB.o)
  obtain ⟨Y5, i3, m3⟩ := uV b0.o
  (first | subst m3 | (injection m3 with f1_ f2_ f3_; have f4_ := f1_.symm; have f5_ := f3_.symm; clear f1_ f2_ f3_; subst f4_; subst f5_))
  have r2 : 0 ≤ ((Q0) : Int) := oD_
  have t2 : (Q0) < (k0.length : Int) := oD_
  obtain ⟨R0, g4, Z0⟩ := uX (uU b0.o).2.2 (Q0) r2 t2
  cases g4
  replace r2 := Aa r2
  replace t2 := Aa t2
  have v2 : 0 ≤ ((T0) : Int) := oD_
  have y2 : (T0) < (k0.length : Int) := oD_
  obtain ⟨n3, i4, b1⟩ := uX (uU b0.o).2.2 (T0) v2 y2
  obtain rfl : R0 = n3 := (by injection i4)
  replace v2 := Aa v2
  replace y2 := Aa y2
  refine eI (n := 15) (S := fun w' => w'.cell? (R0.add ((Q0)).toNat) = some (.int .u64 (rd k0 (Q0))) ∧ w'.cell? (R0.add ((T0)).toNat) = some (.int .u64 (rd k0 (T0)))) (ds := []) (bb_ 15 0) (by kernel_rfl) rfl rfl ⟨Z0, b1⟩ (fun hHeld => ?_); refine cW ac.tab10 ac.bits10 (fun HT_ HW_ => ?_)
  generalize wr.drew = A6 at b0 a0 HB Z0 b1 hHeld ⊢
  refine pT_ 0 57 15 1 ?_
  refine pT_ 1 58 15 3 ?_
  refine pT_ 2 59 15 7 ?_
  refine pT_ 3 60 15 15 ?_
  refine pT_ 4 61 15 31 ?_
  refine pT_ 6 63 15 95 ?_
  refine pT_ 7 64 15 223 ?_
  refine pT_ 8 65 15 479 ?_
  refine pT_ 9 66 15 991 ?_
  refine pT_ 10 67 15 2015 ?_
  refine tS_ 5 62 (bb_ 15 2047) (bF HT_.o HW_.o (by kernel_rfl)) hHeld ?_
  refine tS_ 11 68 (bb_ 15 4095) (bF HT_.o HW_.o (by kernel_rfl)) hHeld ?_
  refine gh (i := 12) (N := some 69) (bb_ 15 8191) rfl rfl (cO HT_.o (by kernel_rfl)) (by decide) (fun K hK => ?_)
  refine fX Tryz.func130 (by kernel_rfl) rfl #[.int .u64 (rd k0 (T0)), .int .i64 1] (by rfl) rfl rfl (by (try simp only [List.map_toArray, List.map_cons, List.map_nil]); first | done | (simp only [F1]; rfl) | rfl | (simp only [List.length_drop, List.length_take]; rfl)) ?_
  with_reducible refine (bC.calls k2 (rd k0 (T0)) 1 Q1 _ X5.o).mono ?_
  rintro e w' ⟨rfl, ⟨nd, rfl⟩⟩
  refine ⟨_, rfl, ?_⟩
  refine hK _ _ ⟨hHeld.1, hHeld.2⟩ (fun hHeld => ?_)
  clear hK K
  refine er (a' := ?_) ?_ ?_
  rotate_left
  ·show Act.put _ (some 69) _ = _
   simp only [Act.put, List.setIfInBounds_toArray, List.set_cons_zero, List.set_cons_succ, bB, cG]
   rfl
  refine pT_ 13 70 15 16383 ?_
  refine pT_ 14 11 15 32767 ?_
  refine fK (dN HT_.o (by kernel_rfl)) ?_
  try go_wp2
  go_loopg [12] k2 (fun kq Z5 w' => ∃ (y1 : List Int) (q0 : Int), Z5 = .int .i64 q0 ∧ aa (ac.l2 kq l0 l1 a2 k0 y1 n0 (Go.bits .xor .u64 (rd k0 (Q0)) Q1) q0 = some r) ∧ aa (kq ≤ k2) ∧ aa (Kd.R (Kd.int .u64) 111 w' w.heap.size (fun k_ => some k_ ≠ (P0 : Value).ownBlock) (.slice (some R0) k0.length i3) k0) ∧ aa (Kd.R (Kd.int .u64) 111 w' w.heap.size (fun k_ => some k_ ≠ ((.slice (some R0) k0.length i3) : Value).ownBlock) P0 y1) ∧ aa (Below w.heap.size w w'))
  case atStart => exact ⟨(f0), (0), f0_, H', ⟨Ca _⟩, ⟨rR_ b0.o⟩, ⟨rR_ a0.o⟩, ⟨hB_⟩⟩
  clear H'
  obtain ⟨y1, q0, rfl, HA, R1, b0, a0, HB⟩ := hrel
  rcases gk with _ | k3
  ·exact absurd HA.o (by simp [ac.l2])
  have H := HA.o
  clear HA
  simp only [ac.l2] at H
  by_cases P2 : q0 < 5
  rotate_left
  ·rw [Ga P2] at H
   have p3 := za P2
   clear P2
   have H' := c_ H
   clear H
   go_wp2
   go_roundg k3
   case measure => have := K1.o; have := V1.o; have := R1.o; omega
   case rel => exact ⟨(y1), (wrap64 (n0 + 1)), f0_, H', ⟨by have := K1.o; have := V1.o; have := R1.o; omega⟩, ⟨rR_ b0.o⟩, ⟨rR_ a0.o⟩, ⟨hB_⟩⟩
  rw [Fa P2] at H
  have p3 := ya P2
  clear P2
  obtain ⟨t0, d1⟩ : ∃ j_ : Int, (wrap64 (n0 + (wrap64 (5 * q0)))) = j_ := ⟨_, rfl⟩
  first | rw [d1] at H | simp only [d1] at H
  have n4 : (IntKind.i64.wrap (n0 + (wrap64 (5 * q0)))) = t0 := (bB _).trans d1
  obtain ⟨v5, H⟩ := iD_ H
  obtain ⟨y5, H⟩ := iD_ H
  obtain ⟨z5, H⟩ := iD_ H
  obtain ⟨z2, A5, H⟩ := bN_ H
  obtain ⟨U0, e1⟩ : ∃ j_ : Int, (wrap64 (q0 + (wrap64 (5 * (Int.tmod (wrap64 ((wrap64 (2 * n0)) + (wrap64 (3 * q0)))) 5))))) = j_ := ⟨_, rfl⟩
  first | rw [e1] at H | simp only [e1] at H
  (try rw [e1] at A5)
  have q4 : (IntKind.i64.wrap (q0 + (wrap64 (5 * (Int.tmod (wrap64 ((wrap64 (2 * n0)) + (wrap64 (3 * q0)))) 5))))) = U0 := (bB _).trans e1
  obtain ⟨B5, H⟩ := iD_ H
  obtain ⟨C5, H⟩ := iD_ H
  obtain ⟨t4, f1⟩ : ∃ y_ : List Int, y_ = (y1.set ((U0) : Int).toNat z2) := ⟨_, rfl⟩
  first | replace H := yb_ f1 H | rw [← f1] at H
  have q3 := c_ f1
  clear f1
  have H' := c_ H
  clear H
  try go_wp2
  obtain ⟨b0, a0, HB⟩ := b_ (vh b0.o) <| b_ (vh a0.o) <| c_ (bE HB.o)
  have A2 : 0 ≤ ((t0) : Int) := oD_
  have B2 : (t0) < (l0.length : Int) := oD_
  obtain ⟨r3, v4, F0⟩ := uX N2.o (t0) A2 B2
  have g1 := F0
  cases v4
  replace F0 := hc_ F0
  replace A2 := Aa A2
  replace B2 := Aa B2
  have C2 : 0 ≤ ((t0) : Int) := oD_
  have D2 : (t0) < (l1.length : Int) := oD_
  obtain ⟨t3, w4, G0⟩ := uX Q5.o (t0) C2 D2
  have i1 := G0
  cases w4
  replace G0 := hc_ G0
  replace C2 := Aa C2
  replace D2 := Aa D2
  refine eI (n := 29) (S := fun w' => w'.cell? (r3.add ((t0)).toNat) = some (.int .u64 (rd l0 (t0))) ∧ w'.cell? (t3.add ((t0)).toNat) = some (.int .i64 (rd l1 (t0)))) (ds := [28]) (bb_ 29 0) (by kernel_rfl) rfl rfl ⟨(hc_ g1), (hc_ i1)⟩ (fun hHeld => ?_); refine cW ac.tab14 ac.bits14 (fun HT_ HW_ => ?_)
  generalize wr.drew = B6 at b0 a0 HB F0 G0 hHeld ⊢
  refine pT_ 0 75 29 1 ?_
  refine pT_ 1 76 29 3 ?_
  refine pT_ 2 77 29 7 ?_
  refine pT_ 3 78 29 15 ?_
  refine pT_ 4 79 29 31 ?_
  refine pT_ 5 80 29 63 ?_
  refine pT_ 6 81 29 127 ?_
  refine pT_ 7 82 29 255 ?_
  refine pT_ 8 83 29 511 ?_
  refine pT_ 9 84 29 1023 ?_
  refine pT_ 10 85 29 2047 ?_
  refine pT_ 11 86 29 4095 ?_
  refine pT_ 12 87 29 8191 ?_
  refine pT_ 13 88 29 16383 ?_
  refine pT_ 14 89 29 32767 ?_
  refine pT_ 15 90 29 65535 ?_
  refine pT_ 17 92 29 196607 ?_
  refine pT_ 19 94 29 720895 ?_
  refine pT_ 20 95 29 1769471 ?_
  refine pT_ 21 96 29 3866623 ?_
  refine pT_ 22 97 29 8060927 ?_
  refine pT_ 23 98 29 16449535 ?_
  refine pT_ 24 99 29 33226751 ?_
  refine tS_ 16 91 (bb_ 29 33292287) (bF HT_.o HW_.o (by kernel_rfl)) hHeld ?_
  refine pT_ 18 93 29 33554431 ?_
  refine tS_ 25 100 (bb_ 29 67108863) (bF HT_.o HW_.o (by kernel_rfl)) hHeld ?_
  refine gh (i := 26) (N := some 101) (bb_ 29 134217727) rfl rfl (cO HT_.o (by kernel_rfl)) (by decide) (fun K hK => ?_)
  refine fX Tryz.func130 (by kernel_rfl) rfl #[.int .u64 (Go.bits .xor .u64 (rd l0 (t0)) (Go.bits .xor .u64 (rd k0 (Q0)) Q1)), .int .i64 (rd l1 (t0))] (by rfl) rfl rfl (by (try simp only [List.map_toArray, List.map_cons, List.map_nil]); first | done | (simp only [E1, d1]; rfl) | rfl | (simp only [List.length_drop, List.length_take]; rfl)) ?_
  with_reducible refine (bC.calls k3 (Go.bits .xor .u64 (rd l0 (t0)) (Go.bits .xor .u64 (rd k0 (Q0)) Q1)) (rd l1 (t0)) z2 _ A5.o).mono ?_
  rintro e w' ⟨rfl, ⟨nd, rfl⟩⟩
  refine ⟨_, rfl, ?_⟩
  have y4 : 0 ≤ ((U0) : Int) := oD_
  have z4 : ((U0) : Int) < ((y1.length : Int) : Int) := oD_
  obtain ⟨go48, b6, v3, w3, gl48, cl48, HG48⟩ := vm a0.o (by omega)
  (first | cases v3 | (injection v3 with ea_ en_ ec_; (first | subst ea_ | (injection ea_ with ea_; subst ea_)); subst ec_; clear en_))
  have A4 := c_ w3
  have GG48 := c_ HG48
  clear w3 gl48 HG48
  obtain ⟨B4, hf48_0⟩ := uZ 0 a0.o ((U0) : Int) y4 z4
  replace y4 := Aa y4
  replace z4 := Aa z4
  have HP50 := vG a0.o ((U0) : Int) z2
  rw [← q3.o] at HP50
  have HQ50 := c_ HP50
  clear HP50
  refine hK _ _ ⟨(hc_ g1), (hc_ i1)⟩ (fun hHeld => ?_)
  clear hK K
  refine er (a' := ?_) ?_ ?_
  rotate_left
  ·show Act.put _ (some 101) _ = _
   simp only [Act.put, List.setIfInBounds_toArray, List.set_cons_zero, List.set_cons_succ, bB, cG]
   rfl
  refine pT_ 27 102 29 268435455 ?_
  refine hZ (i := 28) (N := none) (bb_ 29 536870911) rfl rfl (cO HT_.o (by kernel_rfl)) (by decide) (fun K hK => ?_)
  refine js (w1 := ?_) (by rfl) rfl ?_ ?_
  rotate_left
  ·go_simp
   rfl
  refine hK _ _ ?_
  clear hK K
  refine fK (dN HT_.o (by kernel_rfl)) ?_
  try go_wp2
  go_roundg k3
  case measure => have := K1.o; have := V1.o; have := R1.o; omega
  case rel => exact ⟨(t4), (wrap64 (q0 + 1)), f0_, H', ⟨by have := K1.o; have := V1.o; have := R1.o; omega⟩, ⟨by refine kR_ ?_; exact uW (vr (p := ⟨go48, ((U0) : Int).toNat, none⟩) (uW b0.o (fun k_ hk => (⟨hk, fun e_ => hk (by rw [e_]; rfl)⟩ : _ ∧ k_ ≠ go48))) (fun _ hk => hk.2) _) (fun _ hk => hk.1)⟩, ⟨rR_ HQ50.o⟩, ⟨hS_ A4.o⟩⟩
 rw [Ga O2] at H
 have g3 := za O2
 clear O2
 obtain ⟨C4, H⟩ := iN_ H
 have D5 := Aa C4
 have E5 := ya C4
 clear C4
 obtain ⟨D4, j1⟩ : ∃ y_ : List Int, y_ = (List.replicate 25 0) := ⟨_, rfl⟩
 first | replace H := yb_ j1 H | rw [← j1] at H
 have X1 := c_ j1
 clear j1
 have H' := c_ H
 clear H
 go_wp2_with (first | ((refine cQ (N := 103) rfl ?_); refine vs (Kd.int .u64) _ 111 rfl (N := 103) rfl 109 _ _ rfl 25 rfl rfl Tryz.underlying109 (.int .u64 0) 8 jH rfl (by decide) (by omega) 0 (ok := fun _ => True) (okp := fun _ => True) rfl (fun _ hk => hk) trivial (by omega) (by omega) (Da _ _) (Ca _) ?_; intro S1 C6 V0 hb hg_ hnew_; clear hg_ hnew_; (first | rw [← X1.o] at V0 | (simp only [Int.reduceToNat] at V0; rw [← X1.o] at V0)); obtain ⟨b0, a0, y3, HB⟩ := b_ (vg (rR_ b0.o) (vd V0) hb) <| b_ (vg (rR_ a0.o) (vd V0) hb) <| b_ (uY (vq (vq V0 (vF (rR_ b0.o))) (vF (rR_ a0.o))) (av (hB_))) <| sB_; clear hb V0))
 go_loopg [14] k2 (fun kq c6 w' => ∃ (j0 : List Int) (p0 : Int), c6 = .int .i64 p0 ∧ aa (ac.l3 kq a2 f0 j0 p0 = some r) ∧ aa (kq ≤ k2) ∧ aa (Kd.R (Kd.int .u64) 111 w' w.heap.size (fun k_ => some k_ ≠ (S1 : Value).ownBlock) P0 f0) ∧ aa (Kd.R (Kd.int .u64) 111 w' w.heap.size (fun k_ => some k_ ≠ (P0 : Value).ownBlock) S1 j0) ∧ aa (Below w.heap.size w w'))
 case atStart => exact ⟨(D4), (0), f0_, H', ⟨Ca _⟩, ⟨by refine kR_ ?_; exact uW a0.o (fun _ hk => hk.2)⟩, ⟨by refine kR_ ?_; exact uW y3.o (fun _ hk => hk.2)⟩, ⟨hB_⟩⟩
 clear H'
 obtain ⟨j0, p0, rfl, HA, R1, a0, e0, HB⟩ := hrel
 rcases gk with _ | k3
 ·exact absurd HA.o (by simp [ac.l3])
 have H := HA.o
 clear HA
 simp only [ac.l3] at H
 by_cases Q2 : p0 < 5
 rotate_left
 ·rw [Ga Q2] at H
  have z3 := za Q2
  clear Q2
  obtain ⟨F5, H⟩ := iN_ H
  have G5 := ya F5
  have H5 : decide (0 < j0.length) = true := ya (by omega)
  clear F5
  obtain ⟨e6, m1⟩ : ∃ y_ : List Int, y_ = (j0.set (0 : Int).toNat (Go.bits .xor .u64 (rd j0 0) a2)) := ⟨_, rfl⟩
  first | replace H := yb_ m1 H | rw [← m1] at H
  have A3 := c_ m1
  clear m1
  obtain rfl := Ba H
  obtain ⟨f6, B3, E4⟩ := uV e0.o
  subst E4
  have E2 : 0 ≤ (0 : Int) := (by omega)
  have F2 : 0 < (j0.length : Int) := oD_
  obtain ⟨I5, F4, I0⟩ := uX (uU e0.o).2.2 0 E2 F2
  cases F4
  have qi290 : (0 < j0.length) = True := Aa (by omega)
  (try rw [show ((0 : Int)).toNat = 0 from rfl] at I0)
  (try rw [Addr.add_zero'] at I0)
  replace E2 := Aa E2
  replace F2 := Aa F2
  have G4 : 0 ≤ (0 : Int) := (by omega)
  have H4 : (0 : Int) < ((j0.length : Int) : Int) := oD_
  have qi71 : (0 < j0.length) = True := Aa (by omega)
  obtain ⟨go71, g6, C3, D3, gl71, cl71, HG71⟩ := vm e0.o (by omega)
  (first | cases C3 | (injection C3 with ea_ en_ ec_; (first | subst ea_ | (injection ea_ with ea_; subst ea_)); subst ec_; clear en_))
  have I4 := c_ D3
  have GG71 := c_ HG71
  clear D3 gl71 HG71
  (first | simp only [ch] at I0 | skip)
  obtain ⟨G1, hf71_0⟩ := uZ 0 e0.o (0 : Int) G4 H4
  (try rw [show ((0 : Int)).toNat = 0 from rfl] at G1)
  (try simp only [Nat.reduceMul, Nat.zero_mul, Nat.zero_add, Nat.reduceAdd] at G1)
  (try rw [show ((0 : Int)).toNat = 0 from rfl] at hf71_0)
  (try simp only [Nat.reduceMul, Nat.zero_mul, Nat.zero_add, Nat.reduceAdd] at hf71_0)
  replace G4 := Aa G4
  replace H4 := Aa H4
  have HP73 := vj e0.o (0 : Int) (Go.bits .xor .u64 (rd j0 0) a2)
  go_wp2_with (first | ((refine cz (t := 111) (p := 152) rfl ?_); refine st_ 111 152 HP73 A3 I4 fun D6 hw hp_ hg HBn => ?_; obtain ⟨a0, e0, HB⟩ := b_ (vw (v := (.slice (some ⟨go71, 0, none⟩) j0.length B3)) (v1 := (.slice (some ⟨go71, 0, none⟩) j0.length B3)) (ok := (fun _ => True)) (by refine kR_ ?_; exact uW a0.o (fun _ hk => ⟨trivial, hk⟩)) hg (.inl rfl)) <| b_ (hp_) <| c_ HBn.o; clear hg hw hp_))
  go_ret
  exact ⟨_, f1_, by refine kR_ ?_; exact uW e0.o (fun _ hk => trivial), hB_⟩
 rw [Fa Q2] at H
 have z3 := ya Q2
 clear Q2
 have H' := c_ H
 clear H
 go_wp2
 go_loopg [15] k3 (fun kq i6 w' => ∃ (H0 : List Int) (r0 : Int), i6 = .int .i64 r0 ∧ aa (ac.l4 kq a2 f0 H0 p0 r0 = some r) ∧ aa (kq ≤ k3) ∧ aa (Kd.R (Kd.int .u64) 111 w' w.heap.size (fun k_ => some k_ ≠ (S1 : Value).ownBlock) P0 f0) ∧ aa (Kd.R (Kd.int .u64) 111 w' w.heap.size (fun k_ => some k_ ≠ (P0 : Value).ownBlock) S1 H0) ∧ aa (Below w.heap.size w w'))
 case atStart => exact ⟨(j0), (0), f0_, H', ⟨Ca _⟩, ⟨rR_ a0.o⟩, ⟨rR_ e0.o⟩, ⟨hB_⟩⟩
 clear H'
 obtain ⟨H0, r0, rfl, HA, L3, a0, e0, HB⟩ := hrel
 rcases gk with _ | k4
 ·exact absurd HA.o (by simp [ac.l4])
 have H := HA.o
 clear HA
 simp only [ac.l4] at H
 by_cases R2 : r0 < 5
 rotate_left
 ·rw [Ga R2] at H
  have E3 := za R2
  clear R2
  have H' := c_ H
  clear H
  go_wp2
  go_roundg k4
  case measure => have := K1.o; have := V1.o; have := R1.o; have := L3.o; omega
  case rel => exact ⟨(H0), (wrap64 (p0 + 1)), f0_, H', ⟨by have := K1.o; have := V1.o; have := R1.o; have := L3.o; omega⟩, ⟨rR_ a0.o⟩, ⟨rR_ e0.o⟩, ⟨hB_⟩⟩
 rw [Fa R2] at H
 have E3 := ya R2
 clear R2
 obtain ⟨v0, H1⟩ : ∃ j_ : Int, (wrap64 (p0 + (wrap64 (5 * r0)))) = j_ := ⟨_, rfl⟩
 first | rw [H1] at H | simp only [H1] at H
 have J4 : (IntKind.i64.wrap (p0 + (wrap64 (5 * r0)))) = v0 := (bB _).trans H1
 obtain ⟨J5, H⟩ := iD_ H
 obtain ⟨K5, H⟩ := iD_ H
 obtain ⟨J0, I1⟩ : ∃ j_ : Int, (wrap64 ((Int.tmod (wrap64 (p0 + 1)) 5) + (wrap64 (5 * r0)))) = j_ := ⟨_, rfl⟩
 first | rw [I1] at H | simp only [I1] at H
 have K4 : (IntKind.i64.wrap ((Int.tmod (wrap64 (p0 + 1)) 5) + (wrap64 (5 * r0)))) = J0 := (bB _).trans I1
 obtain ⟨L5, H⟩ := iD_ H
 obtain ⟨M5, H⟩ := iD_ H
 obtain ⟨K0, J1⟩ : ∃ j_ : Int, (wrap64 ((Int.tmod (wrap64 (p0 + 2)) 5) + (wrap64 (5 * r0)))) = j_ := ⟨_, rfl⟩
 first | rw [J1] at H | simp only [J1] at H
 have L4 : (IntKind.i64.wrap ((Int.tmod (wrap64 (p0 + 2)) 5) + (wrap64 (5 * r0)))) = K0 := (bB _).trans J1
 obtain ⟨N5, H⟩ := iD_ H
 obtain ⟨O5, H⟩ := iD_ H
 obtain ⟨P5, H⟩ := iD_ H
 obtain ⟨M4, n1⟩ : ∃ y_ : List Int, y_ = (H0.set ((v0) : Int).toNat (Go.bits .xor .u64 (rd f0 (v0)) (Go.bits .and .u64 (IntKind.u64.wrap (18446744073709551615 - (rd f0 (J0)))) (rd f0 (K0))))) := ⟨_, rfl⟩
 first | replace H := yb_ n1 H | rw [← n1] at H
 have F3 := c_ n1
 clear n1
 have H' := c_ H
 clear H
 try go_wp2
 obtain ⟨a0, e0, HB⟩ := b_ (vh a0.o) <| b_ (vh e0.o) <| c_ (bE HB.o)
 obtain ⟨k6, n6, G3⟩ := uV a0.o
 (first | subst G3 | (injection G3 with f1_ f2_ f3_; have f4_ := f1_.symm; have f5_ := f3_.symm; clear f1_ f2_ f3_; subst f4_; subst f5_))
 have G2 : 0 ≤ ((v0) : Int) := oD_
 have H2 : (v0) < (f0.length : Int) := oD_
 obtain ⟨S0, N4, p1⟩ := uX (uU a0.o).2.2 (v0) G2 H2
 cases N4
 replace G2 := Aa G2
 replace H2 := Aa H2
 have I2 : 0 ≤ ((J0) : Int) := oD_
 have J2 : (J0) < (f0.length : Int) := oD_
 obtain ⟨H3, O4, q1⟩ := uX (uU a0.o).2.2 (J0) I2 J2
 obtain rfl : S0 = H3 := (by injection O4)
 replace I2 := Aa I2
 replace J2 := Aa J2
 have K2 : 0 ≤ ((K0) : Int) := oD_
 have L2 : (K0) < (f0.length : Int) := oD_
 obtain ⟨I3, P4, r1⟩ := uX (uU a0.o).2.2 (K0) K2 L2
 obtain rfl : S0 = I3 := (by injection P4)
 replace K2 := Aa K2
 replace L2 := Aa L2
 have Q4 : 0 ≤ ((v0) : Int) := oD_
 have R4 : ((v0) : Int) < ((H0.length : Int) : Int) := oD_
 obtain ⟨go66, q6, J3, K3, gl66, cl66, HG66⟩ := vm e0.o (by omega)
 (first | cases J3 | (injection J3 with ea_ en_ ec_; (first | subst ea_ | (injection ea_ with ea_; subst ea_)); subst ec_; clear en_))
 have S4 := c_ K3
 have GG66 := c_ HG66
 clear K3 gl66 HG66
 obtain ⟨M2, hf66_0⟩ := uZ 0 e0.o ((v0) : Int) Q4 R4
 replace Q4 := Aa Q4
 replace R4 := Aa R4
 have HP69 := vG e0.o ((v0) : Int) (Go.bits .xor .u64 (rd f0 (v0)) (Go.bits .and .u64 (IntKind.u64.wrap (18446744073709551615 - (rd f0 (J0)))) (rd f0 (K0))))
 rw [← F3.o] at HP69
 have HQ69 := c_ HP69
 clear HP69
 refine eI (n := 35) (S := fun w' => w'.cell? (S0.add ((v0)).toNat) = some (.int .u64 (rd f0 (v0))) ∧ w'.cell? (S0.add ((J0)).toNat) = some (.int .u64 (rd f0 (J0))) ∧ w'.cell? (S0.add ((K0)).toNat) = some (.int .u64 (rd f0 (K0)))) (ds := [34]) (bb_ 35 0) (by kernel_rfl) rfl rfl ⟨p1, q1, r1⟩ (fun hHeld => ?_); refine cW ac.tab22 ac.bits22 (fun HT_ HW_ => ?_)
 generalize wr.drew = E6 at a0 e0 HB GG66 HQ69 hf66_0 p1 q1 r1 M2 hHeld ⊢
 refine pT_ 0 112 35 1 ?_
 refine pT_ 1 113 35 3 ?_
 refine pT_ 2 114 35 7 ?_
 refine pT_ 3 115 35 15 ?_
 refine pT_ 4 116 35 31 ?_
 refine pT_ 5 117 35 63 ?_
 refine pT_ 6 118 35 127 ?_
 refine pT_ 7 119 35 255 ?_
 refine pT_ 8 120 35 511 ?_
 refine pT_ 9 121 35 1023 ?_
 refine pT_ 10 122 35 2047 ?_
 refine pT_ 12 124 35 6143 ?_
 refine pT_ 13 125 35 14335 ?_
 refine pT_ 14 126 35 30719 ?_
 refine pT_ 15 127 35 63487 ?_
 refine pT_ 16 128 35 129023 ?_
 refine pT_ 17 129 35 260095 ?_
 refine pT_ 18 130 35 522239 ?_
 refine pT_ 19 131 35 1046527 ?_
 refine pT_ 22 134 35 5240831 ?_
 refine pT_ 23 135 35 13629439 ?_
 refine pT_ 24 136 35 30406655 ?_
 refine pT_ 25 137 35 63961087 ?_
 refine pT_ 26 138 35 131069951 ?_
 refine pT_ 27 139 35 265287679 ?_
 refine pT_ 28 140 35 533723135 ?_
 refine pT_ 29 141 35 1070594047 ?_
 refine tS_ 11 123 (bb_ 35 1070596095) (bF HT_.o HW_.o (by kernel_rfl)) hHeld ?_
 refine tS_ 20 132 (bb_ 35 1071644671) (bF HT_.o HW_.o (by kernel_rfl)) hHeld ?_
 refine pT_ 21 133 35 1073741823 ?_
 refine tS_ 30 142 (bb_ 35 2147483647) (bF HT_.o HW_.o (by kernel_rfl)) hHeld ?_
 refine pT_ 31 143 35 4294967295 ?_
 refine pT_ 32 144 35 8589934591 ?_
 refine pT_ 33 145 35 17179869183 ?_
 refine hZ (i := 34) (N := none) (bb_ 35 34359738367) rfl rfl (cO HT_.o (by kernel_rfl)) (by decide) (fun K hK => ?_)
 refine js (w1 := ?_) (by rfl) rfl ?_ ?_
 rotate_left
 ·go_simp
  rfl
 refine hK _ _ ?_
 clear hK K
 refine fK (dN HT_.o (by kernel_rfl)) ?_
 try go_wp2
 go_roundg k4
 case measure => have := K1.o; have := V1.o; have := R1.o; have := L3.o; omega
 case rel => exact ⟨(M4), (wrap64 (r0 + 1)), f0_, H', ⟨by have := K1.o; have := V1.o; have := R1.o; have := L3.o; omega⟩, ⟨by refine kR_ ?_; exact uW (vr (p := ⟨go66, ((v0) : Int).toNat, none⟩) (uW a0.o (fun k_ hk => (⟨hk, fun e_ => hk (by rw [e_]; rfl)⟩ : _ ∧ k_ ≠ go66))) (fun _ hk => hk.2) (.int .u64 (Go.bits .xor .u64 (rd f0 (v0)) (Go.bits .and .u64 (IntKind.u64.wrap (18446744073709551615 - (rd f0 (J0)))) (rd f0 (K0)))))) (fun _ hk => hk.1)⟩, ⟨rR_ HQ69.o⟩, ⟨hS_ S4.o⟩⟩
def aY.l0 : Nat → List Int → List Int → List Int → Int → Option (List Int)
 | 0, _, _, _, _ => none
 | k + 1, x0, x3, x4, x5 => if x5 < 24 then (if 0 ≤ x5 then (if x5 < (x4.length : Int) then ((ac.f k x0 x3 (rd x4 x5)).bind fun t303 => (aY.l0 k t303 x3 x4 (wrap64 (x5 + 1)))) else (none)) else (none)) else (some x0)
def aY.f (k : Nat) (l0 : List Int) : Option (List Int) := (bM.f k).bind fun t296 => ((aX.f k).bind fun t299 => (aY.l0 k l0 t296 t299 0))
theorem aY.mono_l : ∀ k, (∀ y0 y1 y2 y3, LeO (aY.l0 k y0 y1 y2 y3) (aY.l0 (k + 1) y0 y1 y2 y3))
 | 0 => fun _ _ _ _ r h => by simp [aY.l0] at h
 | k + 1 => by
  have ih0 := aY.mono_l k
  intros; unfold aY.l0; exact o4_ ih0 ac.mono aX.mono bM.mono
theorem aY.mono : ∀ a0 k, LeO (aY.f k a0) (aY.f (k + 1) a0) := by
 intro a0 k
 have ih0 := aY.mono_l k
 unfold aY.f
 exact o4_ ih0 ac.mono aX.mono bM.mono
theorem aY.calls (k : Nat) (P0_ : Nat → Prop) (A0 : Option Addr) (c0 : Nat) (l0 : List Int) (r : List Int) (w : World) (hs0 : Kd.V (Kd.int .u64) 111 w w.heap.size (fun k_ => P0_ k_) (.slice A0 l0.length c0) l0) (h : aY.f k l0 = some r) :
  Calls Tryz.prog 117 #[.slice A0 l0.length c0] w fun e w' => ∃ J0 : Value, e = .returned (J0) ∧ Kd.V (Kd.int .u64) 111 w' w.heap.size (fun k_ => (P0_ k_ ∨ w.heap.size ≤ k_)) J0 r ∧ Below w.heap.size w w' := by
 have q0 := c_ (show Kd.V (Kd.int .u64) 111 w w.heap.size (fun k_ => (P0_ k_ ∨ w.heap.size ≤ k_)) (.slice A0 l0.length c0) l0 from vU hs0 (fun k_ hk => .inl hk))
 have HB := c_ (Da w.heap.size w)
 delta aY.f at h
 have H := h
 clear h
 obtain ⟨r0, A2, H⟩ := bN_ H
 obtain ⟨j0, A3, H⟩ := bN_ H
 have H' := c_ H
 clear H
 go_enter Tryz.func117, Tryz.ntmps117
 go_wp2_with (first | (refine gR_ (k_ 6 Tryz.func123) (bM.calls _ _ _ A2.o) fun t0 w4 ho_ hb => ?_; obtain ⟨q0, f0, HB⟩ := n_ (tR q0) <| b_ (uY (wT (M := fun k_ => (w.heap.size ≤ k_)) ho_ (av (hB_)) (fun k_ h_ => h_)) (av (hB_))) <| sB_) | (refine gR_ (k_ 7 Tryz.func124) (aX.calls _ _ _ A3.o) fun x0 w5 ho_ hb => ?_; obtain ⟨q0, f0, y0, HB⟩ := n_ (tR q0) <| n_ (fR_ f0) <| b_ (uY (wT (M := fun k_ => (w.heap.size ≤ k_)) ho_ (av (hB_)) (fun k_ h_ => h_)) (av (hB_))) <| sB_))
 go_loopg [0, 5] k (fun kq v0 v5 w' => ∃ (k0 : List Int) (a0 : Int), v5 = .int .i64 a0 ∧ aa (aY.l0 kq k0 r0 j0 a0 = some r) ∧ aa (kq ≤ k) ∧ aa (Kd.V (Kd.int .u64) 111 w' w.heap.size (fun k_ => (P0_ k_ ∨ w.heap.size ≤ k_) ∧ some k_ ≠ (t0 : Value).ownBlock ∧ some k_ ≠ (x0 : Value).ownBlock) v0 k0) ∧ aa (Kd.R (Kd.int .i64) 3 w' w.heap.size (fun k_ => (w.heap.size ≤ k_)) t0 r0) ∧ aa (Kd.R (Kd.int .u64) 111 w' w.heap.size (fun k_ => (w.heap.size ≤ k_)) x0 j0) ∧ aa (Below w.heap.size w w'))
 case atStart => exact ⟨(l0), (0), f0_, H', ⟨Ca _⟩, ⟨by refine kV_ ?_; exact vU q0.o (fun _ hk => ⟨hk.1.1, ⟨hk.1.2, hk.2⟩⟩)⟩, ⟨by refine kR_ ?_; exact uW f0.o (fun _ hk => hk.1)⟩, ⟨by refine kR_ ?_; exact uW y0.o (fun _ hk => hk.1)⟩, ⟨hB_⟩⟩
 clear H'
 obtain ⟨k0, a0, rfl, HA, K0, d0, b0, e0, HB⟩ := hrel
 rcases gk with _ | k1
 ·exact absurd HA.o (by simp [aY.l0])
 have H := HA.o
 clear HA
 simp only [aY.l0] at H
 by_cases c6 : a0 < 24
 rotate_left
 ·rw [Ga c6] at H
  have D0 := za c6
  clear c6
  obtain rfl := Ba H
  go_wp2
  go_ret
  exact ⟨_, f1_, by refine kV_ ?_; exact vU d0.o (fun _ hk => hk.1), hB_⟩
 rw [Fa c6] at H
 have D0 := ya c6
 clear c6
 obtain ⟨M0, H⟩ := iD_ H
 obtain ⟨N0, H⟩ := iD_ H
 obtain ⟨E0, A9, H⟩ := bN_ H
 have H' := c_ H
 clear H
 obtain ⟨O0, P0, F0⟩ := uV e0.o
 subst F0
 have n0 : 0 ≤ (a0 : Int) := oD_
 have p0 : a0 < (j0.length : Int) := oD_
 obtain ⟨L0, G0, C0⟩ := uX (uU e0.o).2.2 a0 n0 p0
 cases G0
 replace n0 := Aa n0
 replace p0 := Aa p0
 obtain ⟨Q0, R0, H0⟩ := wS d0.o
 subst H0
 obtain ⟨S0, T0, I0⟩ := uV b0.o
 subst I0
 go_wp2_with (first | (refine gR_ (k_ 18 Tryz.func125) (ac.calls _ _ _ _ _ _ _ _ _ _ (cR_ (vO d0.o).2.2) ((vO d0.o).2.1) (cR_ (uU b0.o).2.2) ((uU b0.o).2.1) A9.o) fun U0 V0 ho_ hb => ?_; obtain ⟨d0, b0, e0, B0, HB⟩ := n_ (tR d0) <| n_ (fR_ b0) <| n_ (cJ e0) <| b_ (uY (vq (wT (M := fun k_ => (w.heap.size ≤ k_)) ho_ (av (hB_)) (fun k_ h_ => h_)) (vF (rR_ e0.o))) (av (hB_))) <| sB_))
 go_roundg k1
 case measure => have := K0.o; omega
 case rel => exact ⟨(E0), (wrap64 (a0 + 1)), f0_, H', ⟨by have := K0.o; omega⟩, ⟨vU (Kd.R_V (va B0.o (wq b0.o) (by decide))) (fun k_ hk => ⟨.inr hk.1.1.1, hk.2, hk.1.2⟩)⟩, ⟨rR_ b0.o⟩, ⟨by refine kR_ ?_; exact uW e0.o (fun _ hk => hk.1)⟩, ⟨hB_⟩⟩
mutual
def aQ.l0 : Nat → List Int → List Int → Int → Option (ByteArray)
 | 0, _, _, _ => none
 | k + 1, x0, x3, x4 => if x4 < (x0.length : Int) then (if 0 ≤ x4 then (aQ.l1 k x0 x3 x4 (rd x0 x4) 0) else (none)) else (some (strOfNums x3))
def aQ.l1 : Nat → List Int → List Int → Int → Int → Int → Option (ByteArray)
 | 0, _, _, _, _, _ => none
 | k + 1, x0, x3, x4, x5, x6 => if x6 < 8 then (if x3.length < 140737488355328 then (aQ.l1 k x0 (x3 ++ [(Int.tmod x5 256) % 256]) x4 (IntKind.u64.wrap (Int.tdiv x5 256)) (wrap64 (x6 + 1))) else (none)) else (aQ.l0 k x0 x3 (wrap64 (x4 + 1)))
end
def aQ.f (k : Nat) (l0 : List Int) : Option (ByteArray) := aQ.l0 k l0 (([] : List Int)) 0
theorem aQ.mono_l : ∀ k, (∀ y0 y1 y2, LeO (aQ.l0 k y0 y1 y2) (aQ.l0 (k + 1) y0 y1 y2)) ∧ (∀ y0 y1 y2 y3 y4, LeO (aQ.l1 k y0 y1 y2 y3 y4) (aQ.l1 (k + 1) y0 y1 y2 y3 y4))
 | 0 => ⟨fun _ _ _ r h => by simp [aQ.l0] at h, fun _ _ _ _ _ r h => by simp [aQ.l1] at h⟩
 | k + 1 => by
  obtain ⟨ih0, ih1⟩ := aQ.mono_l k
  refine ⟨?_, ?_⟩ <;> (intros; (first | unfold aQ.l0 | unfold aQ.l1); exact o2_ ih0 ih1)
theorem aQ.mono : ∀ a0 k, LeO (aQ.f k a0) (aQ.f (k + 1) a0) := by
 intro a0 k
 obtain ⟨ih0, ih1⟩ := aQ.mono_l k
 unfold aQ.f
 exact o2_ ih0 ih1
theorem aQ.calls (k : Nat) (A0 : Option Addr) (c0 : Nat) (l0 : List Int) (r : ByteArray) (w : World) (hr0 : Kd.C (Kd.int .u64) w A0 l0.length l0) (hc0 : l0.length ≤ c0) (h : aQ.f k l0 = some r) :
  Calls Tryz.prog 118 #[.slice A0 l0.length c0] w fun e w' => e = .returned (.string r) ∧ Below w.heap.size w w' := by
 have K0 := c_ hr0
 have P0 := c_ hc0
 clear hr0 hc0
 have HB := c_ (Da w.heap.size w)
 delta aQ.f at h
 have H := h
 clear h
 obtain ⟨D0, b0⟩ : ∃ y_ : List Int, y_ = (([] : List Int)) := ⟨_, rfl⟩
 first | replace H := yb_ b0 H | rw [← b0] at H
 have t0 := c_ b0
 clear b0
 have H' := c_ H
 clear H
 go_enter Tryz.func118, Tryz.ntmps118
 go_wp2_with (first | (refine lj_ 7 .u8 5 t0 fun L0 w2 v0 HB => ?_))
 go_loopg [3, 4] k (fun kq v3 v4 w' => ∃ (p0 : List Int) (a0 : Int), v4 = .int .i64 a0 ∧ aa (aQ.l0 kq l0 p0 a0 = some r) ∧ aa (kq ≤ k) ∧ aa (Kd.R (Kd.int .u8) 5 w' w.heap.size (fun _ => True) v3 p0) ∧ aa (Below w.heap.size w w'))
 case atStart => exact ⟨(D0), (0), f0_, H', ⟨Ca _⟩, ⟨rR_ v0.o⟩, ⟨hB_⟩⟩
 clear H'
 obtain ⟨p0, a0, rfl, HA, B0, f0, HB⟩ := hrel
 rcases gk with _ | k1
 ·exact absurd HA.o (by simp [aQ.l0])
 have H := HA.o
 clear HA
 simp only [aQ.l0] at H
 by_cases c4 : a0 < (l0.length : Int)
 rotate_left
 ·rw [Ga c4] at H
  have E0 := za c4
  clear c4
  obtain rfl := Ba H
  have M0 := d4 (P := Tryz.prog) Tryz.underlying22 Tryz.underlying5 Tryz.underlying9 (vl f0.o)
  go_wp2
  go_ret
  exact ⟨f1_, hB_⟩
 rw [Fa c4] at H
 have E0 := ya c4
 clear c4
 obtain ⟨N0, H⟩ := iD_ H
 have H' := c_ H
 clear H
 have q0 : 0 ≤ (a0 : Int) := oD_
 have r0 : a0 < (l0.length : Int) := oD_
 obtain ⟨J0, F0, d0⟩ := uX K0.o a0 q0 r0
 cases F0
 replace d0 := hc_ d0
 replace q0 := Aa q0
 replace r0 := Aa r0
 go_wp2
 go_loopg [3, 5, 6] k1 (fun kq v3 v5 v6 w' => ∃ (j0 : List Int) (k0 : Int) (n0 : Int), v5 = .int .u64 k0 ∧ v6 = .int .i64 n0 ∧ aa (aQ.l1 kq l0 j0 a0 k0 n0 = some r) ∧ aa (kq ≤ k1) ∧ aa (Kd.R (Kd.int .u8) 5 w' w.heap.size (fun _ => True) v3 j0) ∧ aa (Below w.heap.size w w'))
 case atStart => exact ⟨(p0), (rd l0 a0), (0), f0_, f0_, H', ⟨Ca _⟩, ⟨rR_ f0.o⟩, ⟨hB_⟩⟩
 clear H'
 obtain ⟨j0, k0, n0, rfl, rfl, HA, C0, f0, HB⟩ := hrel
 rcases gk with _ | k2
 ·exact absurd HA.o (by simp [aQ.l1])
 have H := HA.o
 clear HA
 simp only [aQ.l1] at H
 by_cases c6 : n0 < 8
 ·rw [Fa c6] at H
  have G0 := ya c6
  clear c6
  obtain ⟨c7, H⟩ := iN_ H
  have H0 := c_ c7
  clear c7
  obtain ⟨I0, e0⟩ : ∃ y_ : List Int, y_ = (j0 ++ [(Int.tmod k0 256) % 256]) := ⟨_, rfl⟩
  first | replace H := yb_ e0 H | rw [← e0] at H
  have x0 := c_ e0
  clear e0
  have H' := c_ H
  clear H
  go_wp2_with (first | (refine ga_ 22 26 ?_; at_builtin; refine ap_ f0 x0 H0 Tryz.underlying22 jj fun O0 w8 y0 HB hg hat => ?_))
  go_roundg k2
  case measure => have := B0.o; have := C0.o; omega
  case rel => exact ⟨(I0), (IntKind.u64.wrap (Int.tdiv k0 256)), (wrap64 (n0 + 1)), f0_, f0_, H', ⟨by have := B0.o; have := C0.o; omega⟩, ⟨rR_ y0.o⟩, ⟨hB_⟩⟩
 rw [Ga c6] at H
 have G0 := za c6
 clear c6
 have H' := c_ H
 clear H
 go_wp2
 go_roundg k2
 case measure => have := B0.o; have := C0.o; omega
 case rel => exact ⟨(j0), (wrap64 (a0 + 1)), f0_, H', ⟨by have := B0.o; have := C0.o; omega⟩, ⟨rR_ f0.o⟩, ⟨hB_⟩⟩
-- GIVEN: function 106 (cT)
def dc.f (k : Nat) (a0 : ByteArray) : Option (ByteArray) := if (a0.size : Int) = 200 then ((aN.f k a0).bind fun t315 => ((aY.f k t315).bind fun t318 => ((aQ.f k t318).bind fun t321 => (some t321)))) else (some a0)
theorem dc.mono : ∀ a0 k, LeO (dc.f k a0) (dc.f (k + 1) a0) := by
 intro a0 k
 unfold dc.f
 exact o3_ aQ.mono aN.mono aY.mono
theorem dc.calls (k : Nat) (a0 : ByteArray) (r : ByteArray) (w : World) (h : dc.f k a0 = some r) :
  Calls Tryz.prog 107 #[.string a0] w fun e w' => e = .returned (.string r) ∧ Below w.heap.size w w' := by
 have HB := c_ (Da w.heap.size w)
 delta dc.f at h
 have H := h
 clear h
 by_cases c2 : (a0.size : Int) = 200
 ·rw [Fa c2] at H
  have e0 : ((a0.size : Int) == 200) = true := beq_iff_eq.mpr c2
  have f0 : ((a0.size : Int) != 200) = false := bne_eq_false_iff_eq.mpr c2
  clear c2
  obtain ⟨j0, A3, H⟩ := bN_ H
  obtain ⟨k0, A4, H⟩ := bN_ H
  obtain ⟨n0, A5, H⟩ := bN_ H
  obtain rfl := Ba H
  go_enter Tryz.func107, Tryz.ntmps107
  go_wp2_with (first | (refine gR_ (k_ 8 Tryz.func116) (aN.calls _ _ _ _ A3.o) fun p0 w6 ho_ hb => ?_; obtain ⟨b0, HB⟩ := n_ (lR_ ho_) <| sB_; obtain ⟨q0, r0, t0⟩ := uV b0.o; subst t0) | (refine gR_ (k_ 9 Tryz.func117) (aY.calls _ (fun k_ => some k_ = (.slice q0 j0.length r0 : Value).ownBlock) _ _ _ _ _ (Kd.R_V (vx rfl (b0.o))) A4.o) fun v0 w8 ho_ hb => ?_; obtain ⟨b0, d0, HB⟩ := n_ (fR_ b0) <| b_ (xu (vU (ok' := fun k_ => True) ho_ (fun k_ hk_ => trivial)) (av (hB_))) <| sB_; obtain ⟨y0, B0, x0⟩ := wS d0.o; subst x0) | (refine gc_ (k_ 10 Tryz.func118) (aQ.calls _ _ _ _ _ _ (cR_ (vO d0.o).2.2) ((vO d0.o).2.1) A5.o) fun C0 hb => ?_; obtain ⟨b0, d0, HB⟩ := n_ (fR_ b0) <| n_ (fV_ d0) <| sB_))
  go_ret
  exact ⟨f1_, hB_⟩
 rw [Ga c2] at H
 have e0 : ((a0.size : Int) == 200) = false := beq_eq_false_iff_ne.mpr c2
 have f0 : ((a0.size : Int) != 200) = true := bne_iff_ne.mpr c2
 obtain rfl := Ba H
 go_enter Tryz.func107, Tryz.ntmps107
 go_wp2
 go_ret
 exact ⟨f1_, hB_⟩
-- GIVEN: function 86 (aD)
def au.l0 : Nat → List Int → Int → Option (Bool)
 | 0, _, _ => none
 | k + 1, x0, x3 => if x3 < (x0.length : Int) then (if 0 ≤ x3 then ((aZ.f (rd x0 x3) 0 3328).bind fun t356 => (if t356 = true then (au.l0 k x0 (wrap64 (x3 + 1))) else (some false))) else (none)) else (some true)
def au.f (k : Nat) (l0 : List Int) : Option (Bool) := if (l0.length : Int) = 256 then (au.l0 k l0 0) else (some false)
theorem au.mono_l : ∀ k, (∀ y0 y1, LeO (au.l0 k y0 y1) (au.l0 (k + 1) y0 y1))
 | 0 => fun _ _ r h => by simp [au.l0] at h
 | k + 1 => by
  have ih0 := au.mono_l k
  intros; unfold au.l0; exact o1_ ih0
theorem au.mono : ∀ a0 k, LeO (au.f k a0) (au.f (k + 1) a0) := by
 intro a0 k
 have ih0 := au.mono_l k
 unfold au.f
 exact o1_ ih0
theorem au.calls (k : Nat) (A0 : Option Addr) (c0 : Nat) (l0 : List Int) (r : Bool) (w : World) (hr0 : Kd.C (Kd.int .i64) w A0 l0.length l0) (hc0 : l0.length ≤ c0) (h : au.f k l0 = some r) :
  Calls Tryz.prog 47 #[.slice A0 l0.length c0] w fun e w' => e = .returned (.bool r) ∧ cx w w' := by
 have r0 := c_ hr0
 have x0 := c_ hc0
 clear hr0 hc0
 delta au.f at h
 have H := h
 clear h
 by_cases c2 : (l0.length : Int) = 256
 rotate_left
 ·rw [Ga c2] at H
  have k0 : ((l0.length : Int) == 256) = false := beq_eq_false_iff_ne.mpr c2
  have n0 : ((l0.length : Int) != 256) = true := bne_iff_ne.mpr c2
  obtain rfl := Ba H
  go_enter Tryz.func47, Tryz.ntmps47
  go_wp2
  go_ret
  exact ⟨f0_, d0_⟩
 rw [Fa c2] at H
 have k0 : ((l0.length : Int) == 256) = true := beq_iff_eq.mpr c2
 have n0 : ((l0.length : Int) != 256) = false := bne_eq_false_iff_eq.mpr c2
 clear c2
 have H' := c_ H
 clear H
 go_enter Tryz.func47, Tryz.ntmps47
 go_wp2
 go_loopg [3] k (fun kq v3 w' => ∃ (a0 : Int), v3 = .int .i64 a0 ∧ aa (au.l0 kq l0 a0 = some r) ∧ aa (kq ≤ k) ∧ cx w w')
 case atStart => exact ⟨(0), f0_, H', ⟨Ca _⟩, d0_⟩
 clear H'
 obtain ⟨a0, rfl, HA, t0, ⟨m1, rfl⟩⟩ := hrel
 rcases gk with _ | k1
 ·exact absurd HA.o (by simp [au.l0])
 have H := HA.o
 clear HA
 simp only [au.l0] at H
 by_cases c3 : a0 < (l0.length : Int)
 rotate_left
 ·rw [Ga c3] at H
  have p0 := za c3
  clear c3
  obtain rfl := Ba H
  go_wp2
  go_ret
  exact ⟨f0_, d0_⟩
 rw [Fa c3] at H
 have p0 := ya c3
 clear c3
 obtain ⟨v0, H⟩ := iD_ H
 obtain ⟨q0, A5, H⟩ := bN_ H
 by_cases c6 : q0 = true
 ·subst c6
  replace H := iT_ H
  have H' := c_ H
  clear H
  have b0 : 0 ≤ (a0 : Int) := oD_
  have d0 : a0 < (l0.length : Int) := oD_
  obtain ⟨j0, f0, e0⟩ := uX r0.o a0 b0 d0
  cases f0
  replace b0 := Aa b0
  replace d0 := Aa d0
  go_wp2_with (first | (refine gp_ (k_ 17 Tryz.func87) (aZ.calls _ _ _ _ _ A5.o) fun nd => ?_))
  go_roundg k1
  case measure => have := t0.o; omega
  case rel => exact ⟨(wrap64 (a0 + 1)), f0_, H', ⟨by have := t0.o; omega⟩, d0_⟩
 ·replace c6 := Ea c6
  subst c6
  replace H := iF_ H
  obtain rfl := Ba H
  have b0 : 0 ≤ (a0 : Int) := oD_
  have d0 : a0 < (l0.length : Int) := oD_
  obtain ⟨j0, f0, e0⟩ := uX r0.o a0 b0 d0
  cases f0
  replace b0 := Aa b0
  replace d0 := Aa d0
  go_wp2_with (first | (refine gp_ (k_ 17 Tryz.func87) (aZ.calls _ _ _ _ _ A5.o) fun nd => ?_))
  go_ret
  exact ⟨f0_, d0_⟩
mutual
def bv.j0 : Nat → Int → Int → Option (Int)
 | 0, _, _ => none
 | k + 1, x0, x1 => bv.l0 k x0 x1 1
def bv.l0 : Nat → Int → Int → Int → Option (Int)
 | 0, _, _, _ => none
 | k + 1, x0, x1, x5 => if x1 > 0 then (if (Int.tmod x1 2) = 1 then (bv.l0 k (Int.tmod (wrap64 (x0 * x0)) 3329) (wrap64 (Int.tdiv x1 2)) (Int.tmod (wrap64 (x5 * x0)) 3329)) else (bv.l0 k (Int.tmod (wrap64 (x0 * x0)) 3329) (wrap64 (Int.tdiv x1 2)) x5)) else (some x5)
end
def bv.f (k : Nat) (a0 : Int) (a1 : Int) : Option (Int) := (aZ.f a1 0 1000000000).bind fun t357 => (if t357 = true then (if (Int.tmod a0 3329) < 0 then (bv.j0 k (wrap64 ((Int.tmod a0 3329) + 3329)) a1) else (bv.j0 k (Int.tmod a0 3329) a1)) else (some 0))
theorem bv.mono_l : ∀ k, (∀ y0 y1, LeO (bv.j0 k y0 y1) (bv.j0 (k + 1) y0 y1)) ∧ (∀ y0 y1 y2, LeO (bv.l0 k y0 y1 y2) (bv.l0 (k + 1) y0 y1 y2))
 | 0 => ⟨fun _ _ r h => by simp [bv.j0] at h, fun _ _ _ r h => by simp [bv.l0] at h⟩
 | k + 1 => by
  obtain ⟨ih0, ih1⟩ := bv.mono_l k
  refine ⟨?_, ?_⟩ <;> (intros; (first | unfold bv.j0 | unfold bv.l0); exact o2_ ih0 ih1)
theorem bv.mono : ∀ a0 a1 k, LeO (bv.f k a0 a1) (bv.f (k + 1) a0 a1) := by
 intro a0 a1 k
 obtain ⟨ih0, ih1⟩ := bv.mono_l k
 unfold bv.f
 exact o2_ ih0 ih1
theorem bv.calls (k : Nat) (a0 : Int) (a1 : Int) (r : Int) (w : World) (h : bv.f k a0 a1 = some r) :
  Calls Tryz.prog 48 #[.int .i64 a0, .int .i64 a1] w fun e w' => e = .returned (.int .i64 r) ∧ cx w w' := by
 delta bv.f at h
 have H := h
 clear h
 obtain ⟨q0, A3, H⟩ := bN_ H
 by_cases c4 : q0 = true
 ·subst c4
  replace H := iT_ H
  have r0 := c_ H
  clear H
  go_enter Tryz.func48, Tryz.ntmps48
  go_upto_if 12 with (first | (refine gp_ (k_ 7 Tryz.func87) (aZ.calls _ _ _ _ _ A3.o) fun nd => ?_))
  (try simp only [Act.put, List.setIfInBounds_toArray, List.set_cons_zero, List.set_cons_succ])
  go_cut [0] (fun v0 wc => ∃ (kq : Nat) (k0 : Int), v0 = .int .i64 k0 ∧ aa (bv.j0 kq k0 a1 = some r) ∧ aa (kq ≤ k) ∧ cx w wc)
  case first =>
   have H := r0.o
   clear r0
   by_cases c6 : (Int.tmod a0 3329) < 0
   ·rw [Fa c6] at H
    have e0 := ya c6
    clear c6
    (first | rw [e0] | (simp only [bB, cG]; rw [e0]) | skip)
    have H' := c_ H
    clear H
    go_wp2
    go_meet
    case rel => exact ⟨_, (wrap64 ((Int.tmod a0 3329) + 3329)), f0_, H', ⟨by first | omega | exact Ca _⟩, d0_⟩
   rw [Ga c6] at H
   have e0 := za c6
   clear c6
   (first | rw [e0] | (simp only [bB, cG]; rw [e0]) | skip)
   have H' := c_ H
   clear H
   go_wp2
   go_meet
   case rel => exact ⟨_, (Int.tmod a0 3329), f0_, H', ⟨by first | omega | exact Ca _⟩, d0_⟩
  clear r0
  obtain ⟨kq, k0, rfl, HA, n0, ⟨mc4, rfl⟩⟩ := hcut
  rcases kq with _ | B0
  ·exact absurd HA.o (by simp [bv.j0])
  have H := HA.o
  clear HA
  simp only [bv.j0] at H
  have H' := c_ H
  clear H
  go_wp2
  go_loopg [0, 1, 5] B0 (fun kq v0 v1 v5 w' => ∃ (d0 : Int) (b0 : Int) (f0 : Int), v0 = .int .i64 d0 ∧ v1 = .int .i64 b0 ∧ v5 = .int .i64 f0 ∧ aa (bv.l0 kq d0 b0 f0 = some r) ∧ aa (kq ≤ B0) ∧ cx w w')
  case atStart => exact ⟨(k0), (a1), (1), f0_, f0_, f0_, H', ⟨Ca _⟩, d0_⟩
  clear H'
  obtain ⟨d0, b0, f0, rfl, rfl, rfl, HA, p0, ⟨m2, rfl⟩⟩ := hrel
  rcases gk with _ | k2
  ·exact absurd HA.o (by simp [bv.l0])
  have H := HA.o
  clear HA
  simp only [bv.l0] at H
  by_cases c7 : b0 > 0
  ·rw [Fa c7] at H
   have t0 := ya c7
   clear c7
   by_cases c8 : (Int.tmod b0 2) = 1
   ·rw [Fa c8] at H
    have x0 : ((Int.tmod b0 2) == 1) = true := beq_iff_eq.mpr c8
    have y0 : ((Int.tmod b0 2) != 1) = false := bne_eq_false_iff_eq.mpr c8
    clear c8
    have H' := c_ H
    clear H
    go_wp2
    go_roundg k2
    case measure => have := n0.o; have := p0.o; omega
    case rel => exact ⟨(Int.tmod (wrap64 (d0 * d0)) 3329), (wrap64 (Int.tdiv b0 2)), (Int.tmod (wrap64 (f0 * d0)) 3329), f0_, f0_, f0_, H', ⟨by have := n0.o; have := p0.o; omega⟩, d0_⟩
   rw [Ga c8] at H
   have x0 : ((Int.tmod b0 2) == 1) = false := beq_eq_false_iff_ne.mpr c8
   have y0 : ((Int.tmod b0 2) != 1) = true := bne_iff_ne.mpr c8
   have H' := c_ H
   clear H
   go_wp2
   go_roundg k2
   case measure => have := n0.o; have := p0.o; omega
   case rel => exact ⟨(Int.tmod (wrap64 (d0 * d0)) 3329), (wrap64 (Int.tdiv b0 2)), (f0), f0_, f0_, f0_, H', ⟨by have := n0.o; have := p0.o; omega⟩, d0_⟩
  rw [Ga c7] at H
  have t0 := za c7
  clear c7
  obtain rfl := Ba H
  go_wp2
  go_ret
  exact ⟨f0_, d0_⟩
 ·replace c4 := Ea c4
  subst c4
  replace H := iF_ H
  obtain rfl := Ba H
  go_enter Tryz.func48, Tryz.ntmps48
  go_wp2_with (first | (refine gp_ (k_ 7 Tryz.func87) (aZ.calls _ _ _ _ _ A3.o) fun nd => ?_))
  go_ret
  exact ⟨f0_, d0_⟩
mutual
def bi.j0 : Nat → Int → Option (Int)
 | 0, _ => none
 | k + 1, x0 => bi.l0 k x0 0 0
def bi.l0 : Nat → Int → Int → Int → Option (Int)
 | 0, _, _, _ => none
 | k + 1, x0, x3, x4 => if x4 < 7 then (bi.l0 k (wrap64 (Int.tdiv x0 2)) (wrap64 ((wrap64 (2 * x3)) + (Int.tmod x0 2))) (wrap64 (x4 + 1))) else (some x3)
end
def bi.f (k : Nat) (a0 : Int) : Option (Int) := if (Int.tmod a0 128) < 0 then (bi.j0 k (wrap64 ((Int.tmod a0 128) + 128))) else (bi.j0 k (Int.tmod a0 128))
theorem bi.mono_l : ∀ k, (∀ y0, LeO (bi.j0 k y0) (bi.j0 (k + 1) y0)) ∧ (∀ y0 y1 y2, LeO (bi.l0 k y0 y1 y2) (bi.l0 (k + 1) y0 y1 y2))
 | 0 => ⟨fun _ r h => by simp [bi.j0] at h, fun _ _ _ r h => by simp [bi.l0] at h⟩
 | k + 1 => by
  obtain ⟨ih0, ih1⟩ := bi.mono_l k
  refine ⟨?_, ?_⟩ <;> (intros; (first | unfold bi.j0 | unfold bi.l0); exact o2_ ih0 ih1)
theorem bi.mono : ∀ a0 k, LeO (bi.f k a0) (bi.f (k + 1) a0) := by
 intro a0 k
 obtain ⟨ih0, ih1⟩ := bi.mono_l k
 unfold bi.f
 exact o2_ ih0 ih1
theorem bi.calls (k : Nat) (a0 : Int) (r : Int) (w : World) (h : bi.f k a0 = some r) :
  Calls Tryz.prog 49 #[.int .i64 a0] w fun e w' => e = .returned (.int .i64 r) ∧ cx w w' := by
 delta bi.f at h
 have H := h
 clear h
 have n0 := c_ H
 clear H
 go_enter Tryz.func49, Tryz.ntmps49
 go_upto_if 8 with (fail)
 go_cut [0] (fun v0 wc => ∃ (kq : Nat) (f0 : Int), v0 = .int .i64 f0 ∧ aa (bi.j0 kq f0 = some r) ∧ aa (kq ≤ k) ∧ cx w wc)
 case first =>
  have H := n0.o
  clear n0
  by_cases c3 : (Int.tmod a0 128) < 0
  ·rw [Fa c3] at H
   have b0 := ya c3
   clear c3
   (first | rw [b0] | (simp only [bB, cG]; rw [b0]) | skip)
   have H' := c_ H
   clear H
   go_wp2
   go_meet
   case rel => exact ⟨_, (wrap64 ((Int.tmod a0 128) + 128)), f0_, H', ⟨by first | omega | exact Ca _⟩, d0_⟩
  rw [Ga c3] at H
  have b0 := za c3
  clear c3
  (first | rw [b0] | (simp only [bB, cG]; rw [b0]) | skip)
  have H' := c_ H
  clear H
  go_wp2
  go_meet
  case rel => exact ⟨_, (Int.tmod a0 128), f0_, H', ⟨by first | omega | exact Ca _⟩, d0_⟩
 clear n0
 obtain ⟨kq, f0, rfl, HA, q0, ⟨mc1, rfl⟩⟩ := hcut
 rcases kq with _ | r0
 ·exact absurd HA.o (by simp [bi.j0])
 have H := HA.o
 clear HA
 simp only [bi.j0] at H
 have H' := c_ H
 clear H
 go_wp2
 go_loopg [0, 3, 4] r0 (fun kq v0 v3 v4 w' => ∃ (d0 : Int) (k0 : Int) (e0 : Int), v0 = .int .i64 d0 ∧ v3 = .int .i64 k0 ∧ v4 = .int .i64 e0 ∧ aa (bi.l0 kq d0 k0 e0 = some r) ∧ aa (kq ≤ r0) ∧ cx w w')
 case atStart => exact ⟨(f0), (0), (0), f0_, f0_, f0_, H', ⟨Ca _⟩, d0_⟩
 clear H'
 obtain ⟨d0, k0, e0, rfl, rfl, rfl, HA, t0, ⟨m2, rfl⟩⟩ := hrel
 rcases gk with _ | k2
 ·exact absurd HA.o (by simp [bi.l0])
 have H := HA.o
 clear HA
 simp only [bi.l0] at H
 by_cases c4 : e0 < 7
 ·rw [Fa c4] at H
  have p0 := ya c4
  clear c4
  have H' := c_ H
  clear H
  go_wp2
  go_roundg k2
  case measure => have := q0.o; have := t0.o; omega
  case rel => exact ⟨(wrap64 (Int.tdiv d0 2)), (wrap64 ((wrap64 (2 * k0)) + (Int.tmod d0 2))), (wrap64 (e0 + 1)), f0_, f0_, f0_, H', ⟨by have := q0.o; have := t0.o; omega⟩, d0_⟩
 rw [Ga c4] at H
 have p0 := za c4
 clear c4
 obtain rfl := Ba H
 go_wp2
 go_ret
 exact ⟨f0_, d0_⟩
mutual
def ba.l0 : Nat → List Int → Int → Int → Option (List Int)
 | 0, _, _, _ => none
 | k + 1, x3, x4, x5 => if x5 ≥ 2 then (ba.l1 k x3 x4 x5 0) else (some x3)
def ba.l1 : Nat → List Int → Int → Int → Int → Option (List Int)
 | 0, _, _, _, _ => none
 | k + 1, x3, x4, x5, x6 => if x6 < 256 then ((bi.f k x4).bind fun t368 => ((bv.f k 17 t368).bind fun t369 => (ba.l2 k x3 (wrap64 (x4 + 1)) x5 x6 t369 x6))) else (ba.l0 k x3 x4 (wrap64 (Int.tdiv x5 2)))
def ba.l2 : Nat → List Int → Int → Int → Int → Int → Int → Option (List Int)
 | 0, _, _, _, _, _, _ => none
 | k + 1, x3, x4, x5, x6, x7, x8 => if x8 < (wrap64 (x6 + x5)) then (if 0 ≤ (wrap64 (x8 + x5)) then (if (wrap64 (x8 + x5)) < (x3.length : Int) then (if 0 ≤ x8 then (if x8 < (x3.length : Int) then ((some (x3.set ((wrap64 (x8 + x5)) : Int).toNat (Int.tmod (wrap64 ((wrap64 ((rd x3 x8) - (Int.tmod (wrap64 (x7 * (rd x3 (wrap64 (x8 + x5))))) 3329))) + 3329)) 3329) : List Int)).bind fun y372 => (ba.l2 k (y372.set (x8 : Int).toNat (Int.tmod (wrap64 ((rd y372 x8) + (Int.tmod (wrap64 (x7 * (rd x3 (wrap64 (x8 + x5))))) 3329))) 3329)) x4 x5 x6 x7 (wrap64 (x8 + 1)))) else (none)) else (none)) else (none)) else (none)) else (ba.l1 k x3 x4 x5 (wrap64 (x6 + (wrap64 (2 * x5)))))
end
def ba.f (k : Nat) (l0 : List Int) : Option (List Int) := (au.f k l0).bind fun t358 => (if t358 = true then ((some (([] : List Int) : List Int)).bind fun y362 => (if y362.length + l0.length < 17592186044416 then (ba.l0 k (y362 ++ l0) 1 128) else (none))) else (some (([] : List Int))))
theorem ba.mono_l : ∀ k, (∀ y0 y1 y2, LeO (ba.l0 k y0 y1 y2) (ba.l0 (k + 1) y0 y1 y2)) ∧ (∀ y0 y1 y2 y3, LeO (ba.l1 k y0 y1 y2 y3) (ba.l1 (k + 1) y0 y1 y2 y3)) ∧ (∀ y0 y1 y2 y3 y4 y5, LeO (ba.l2 k y0 y1 y2 y3 y4 y5) (ba.l2 (k + 1) y0 y1 y2 y3 y4 y5))
 | 0 => ⟨fun _ _ _ r h => by simp [ba.l0] at h, fun _ _ _ _ r h => by simp [ba.l1] at h, fun _ _ _ _ _ _ r h => by simp [ba.l2] at h⟩
 | k + 1 => by
  obtain ⟨ih0, ih1, ih2⟩ := ba.mono_l k
  refine ⟨?_, ?_, ?_⟩ <;> (intros; (first | unfold ba.l0 | unfold ba.l1 | unfold ba.l2); exact o6_ ih0 ih1 ih2 au.mono bv.mono bi.mono)
theorem ba.mono : ∀ a0 k, LeO (ba.f k a0) (ba.f (k + 1) a0) := by
 intro a0 k
 obtain ⟨ih0, ih1, ih2⟩ := ba.mono_l k
 unfold ba.f
 exact o6_ ih0 ih1 ih2 au.mono bv.mono bi.mono
theorem ba.calls (k : Nat) (A0 : Option Addr) (c0 : Nat) (l0 : List Int) (r : List Int) (w : World) (hr0 : Kd.C (Kd.int .i64) w A0 l0.length l0) (hc0 : l0.length ≤ c0) (h : ba.f k l0 = some r) :
  Calls Tryz.prog 19 #[.slice A0 l0.length c0] w fun e w' => ∃ L1 : Value, e = .returned (L1) ∧ Kd.R (Kd.int .i64) 3 w' w.heap.size (fun _ => True) L1 r ∧ Below w.heap.size w w' := by
 have m1 := c_ hr0
 have M1 := c_ hc0
 clear hr0 hc0
 have HB := c_ (Da w.heap.size w)
 delta ba.f at h
 have H := h
 clear h
 obtain ⟨n1, A2, H⟩ := bN_ H
 by_cases c3 : n1 = true
 ·subst c3
  replace H := iT_ H
  obtain ⟨S0, n0⟩ : ∃ y_ : List Int, y_ = (([] : List Int)) := ⟨_, rfl⟩
  first | replace H := yb_ n0 H | rw [← n0] at H
  have T0 := c_ n0
  clear n0
  obtain ⟨c4, H⟩ := iN_ H
  have p1 := c_ c4
  clear c4
  obtain ⟨q1, p0⟩ : ∃ y_ : List Int, y_ = (S0 ++ l0) := ⟨_, rfl⟩
  first | replace H := yb_ p0 H | rw [← p0] at H
  have U0 := c_ p0
  clear p0
  have H' := c_ H
  clear H
  go_enter Tryz.func19, Tryz.ntmps19
  go_wp2_with (first | (refine gp_ (k_ 11 Tryz.func47) (au.calls _ _ _ _ _ _ (cR_ m1.o) M1.o A2.o) fun nd => ?_) | (refine lj_ 14 .i64 3 T0 fun r1 w5 V0 HB => ?_) | ((refine cr (b := .append) (xs := #[.tmp 14, .tmp 15]) rfl ?_); at_builtin; refine vt (Kd.int .i64) (w0 := w) w.heap.size rfl (.tmp 14) (.tmp 15) 33 3 (.int .i64 0) 8 rfl Tryz.underlying33 di rfl (by decide) (by omega) r1 S0 l0 _ _ _ (fun _ => True) (fun _ => False) rfl rfl ?aO ?aR (fun _ _ h => h) (fun _ h => h.elim) ?aF ?aB ?aS ?aL ?_; (case aR => exact cR_ (vb m1.o HB.o)); (case aB => exact (hB_)); (case aF => exact (fun _ _ => trivial)); (case aO => exact (rR_ V0.o)); (case aS => exact (av (hB_))); (case aL => have := p1.o; omega); intro I0 w7 ho hb hg hat; rw [← U0.o] at ho; obtain ⟨HB, W0⟩ := b_ (hb) <| c_ (ho); clear ho hb hg hat))
  go_loopg [4, 5] k (fun kq v4 v5 w' => ∃ (C0 : List Int) (D0 : Int) (f0 : Int), v4 = .int .i64 D0 ∧ v5 = .int .i64 f0 ∧ aa (ba.l0 kq C0 D0 f0 = some r) ∧ aa (kq ≤ k) ∧ aa (Kd.R (Kd.int .i64) 3 w' w.heap.size (fun _ => True) I0 C0) ∧ aa (Below w.heap.size w w'))
  case atStart => exact ⟨(q1), (1), (128), f0_, f0_, H', ⟨Ca _⟩, ⟨rR_ W0.o⟩, ⟨hB_⟩⟩
  clear H'
  obtain ⟨C0, D0, f0, rfl, rfl, HA, P0, b0, HB⟩ := hrel
  rcases gk with _ | k1
  ·exact absurd HA.o (by simp [ba.l0])
  have H := HA.o
  clear HA
  simp only [ba.l0] at H
  by_cases c8 : f0 ≥ 2
  rotate_left
  ·rw [Ga c8] at H
   have t1 := za c8
   clear c8
   obtain rfl := Ba H
   go_wp2
   go_ret
   exact ⟨_, f1_, rR_ b0.o, hB_⟩
  rw [Fa c8] at H
  have t1 := ya c8
  clear c8
  have H' := c_ H
  clear H
  go_wp2
  go_loopg [4, 6] k1 (fun kq v4 v6 w' => ∃ (x0 : List Int) (v0 : Int) (k0 : Int), v4 = .int .i64 v0 ∧ v6 = .int .i64 k0 ∧ aa (ba.l1 kq x0 v0 f0 k0 = some r) ∧ aa (kq ≤ k1) ∧ aa (Kd.R (Kd.int .i64) 3 w' w.heap.size (fun _ => True) I0 x0) ∧ aa (Below w.heap.size w w'))
  case atStart => exact ⟨(C0), (D0), (0), f0_, f0_, H', ⟨Ca _⟩, ⟨rR_ b0.o⟩, ⟨hB_⟩⟩
  clear H'
  obtain ⟨x0, v0, k0, rfl, rfl, HA, Q0, b0, HB⟩ := hrel
  rcases gk with _ | k2
  ·exact absurd HA.o (by simp [ba.l1])
  have H := HA.o
  clear HA
  simp only [ba.l1] at H
  by_cases c9 : k0 < 256
  rotate_left
  ·rw [Ga c9] at H
   have y1 := za c9
   clear c9
   have H' := c_ H
   clear H
   go_wp2
   go_roundg k2
   case measure => have := P0.o; have := Q0.o; omega
   case rel => exact ⟨(x0), (v0), (wrap64 (Int.tdiv f0 2)), f0_, f0_, H', ⟨by have := P0.o; have := Q0.o; omega⟩, ⟨rR_ b0.o⟩, ⟨hB_⟩⟩
  rw [Fa c9] at H
  have y1 := ya c9
  clear c9
  obtain ⟨S1, T1, H⟩ := bN_ H
  obtain ⟨y0, U1, H⟩ := bN_ H
  have H' := c_ H
  clear H
  go_wp2_with (first | (refine gp_ (k_ 28 Tryz.func49) (bi.calls _ _ _ _ T1.o) fun nd => ?_) | (refine gp_ (k_ 29 Tryz.func48) (bv.calls _ _ _ _ _ U1.o) fun nd => ?_))
  go_loopg [8] k2 (fun kq v8 w' => ∃ (d0 : List Int) (a0 : Int), v8 = .int .i64 a0 ∧ aa (ba.l2 kq d0 (wrap64 (v0 + 1)) f0 k0 y0 a0 = some r) ∧ aa (kq ≤ k2) ∧ aa (Kd.R (Kd.int .i64) 3 w' w.heap.size (fun _ => True) I0 d0) ∧ aa (Below w.heap.size w w'))
  case atStart => exact ⟨(x0), (k0), f0_, H', ⟨Ca _⟩, ⟨rR_ b0.o⟩, ⟨hB_⟩⟩
  clear H'
  obtain ⟨d0, a0, rfl, HA, j1, b0, HB⟩ := hrel
  rcases gk with _ | k3
  ·exact absurd HA.o (by simp [ba.l2])
  have H := HA.o
  clear HA
  simp only [ba.l2] at H
  by_cases R0 : a0 < (wrap64 (k0 + f0))
  rotate_left
  ·rw [Ga R0] at H
   have X0 := za R0
   clear R0
   have H' := c_ H
   clear H
   go_wp2
   go_roundg k3
   case measure => have := P0.o; have := Q0.o; have := j1.o; omega
   case rel => exact ⟨(d0), ((wrap64 (v0 + 1))), (wrap64 (k0 + (wrap64 (2 * f0)))), f0_, f0_, H', ⟨by have := P0.o; have := Q0.o; have := j1.o; omega⟩, ⟨rR_ b0.o⟩, ⟨hB_⟩⟩
  rw [Fa R0] at H
  have X0 := ya R0
  clear R0
  obtain ⟨e0, B0⟩ : ∃ j_ : Int, (wrap64 (a0 + f0)) = j_ := ⟨_, rfl⟩
  first | rw [B0] at H | simp only [B0] at H
  have z1 : (IntKind.i64.wrap (a0 + f0)) = e0 := (bB _).trans B0
  obtain ⟨N1, H⟩ := iD_ H
  obtain ⟨O1, H⟩ := iD_ H
  obtain ⟨P1, H⟩ := iD_ H
  obtain ⟨Q1, H⟩ := iD_ H
  obtain ⟨E0, q0⟩ : ∃ y_ : List Int, y_ = (d0.set ((e0) : Int).toNat (Int.tmod (wrap64 ((wrap64 ((rd d0 a0) - (Int.tmod (wrap64 (y0 * (rd d0 (e0)))) 3329))) + 3329)) 3329)) := ⟨_, rfl⟩
  first | replace H := yb_ q0 H | rw [← q0] at H
  have H0 := c_ q0
  clear q0
  obtain ⟨A1, r0⟩ : ∃ y_ : List Int, y_ = (E0.set (a0 : Int).toNat (Int.tmod (wrap64 ((rd E0 a0) + (Int.tmod (wrap64 (y0 * (rd d0 (e0)))) 3329))) 3329)) := ⟨_, rfl⟩
  first | replace H := yb_ r0 H | rw [← r0] at H
  have Y0 := c_ r0
  clear r0
  have H' := c_ H
  clear H
  obtain ⟨V1, X1, B1⟩ := uV b0.o
  subst B1
  have J0 : 0 ≤ ((e0) : Int) := oD_
  have K0 : (e0) < (d0.length : Int) := oD_
  obtain ⟨Z0, C1, F0⟩ := uX (uU b0.o).2.2 (e0) J0 K0
  cases C1
  replace J0 := Aa J0
  replace K0 := Aa K0
  have L0 : 0 ≤ (a0 : Int) := oD_
  have M0 : a0 < (d0.length : Int) := oD_
  obtain ⟨b1, D1, G0⟩ := uX (uU b0.o).2.2 a0 L0 M0
  obtain rfl : Z0 = b1 := (by injection D1)
  replace L0 := Aa L0
  replace M0 := Aa M0
  have E1 : 0 ≤ ((e0) : Int) := oD_
  have F1 : ((e0) : Int) < ((d0.length : Int) : Int) := oD_
  obtain ⟨go18, Y1, c1, d1, gl18, cl18, HG18⟩ := vm b0.o (by omega)
  (first | cases c1 | (injection c1 with ea_ en_ ec_; (first | subst ea_ | (injection ea_ with ea_; subst ea_)); subst ec_; clear en_))
  have e1 := c_ d1
  have GG18 := c_ HG18
  clear d1 gl18 HG18
  (first | simp only [ch] at F0 | skip)
  (first | simp only [ch] at G0 | skip)
  obtain ⟨G1, hf18_0⟩ := uZ 0 b0.o ((e0) : Int) E1 F1
  replace E1 := Aa E1
  replace F1 := Aa F1
  have HP21 := vj b0.o ((e0) : Int) (Int.tmod (wrap64 ((wrap64 ((rd d0 a0) - (Int.tmod (wrap64 (y0 * (rd d0 (e0)))) 3329))) + 3329)) 3329)
  go_wp2_with (first | ((refine cz (t := 3) (p := 61) rfl ?_); refine st_ 3 61 HP21 H0 e1 fun c2 hw hp_ hg HBn => ?_; obtain ⟨b0, HB⟩ := b_ (hp_) <| c_ HBn.o; clear hg hw hp_; have N0 : 0 ≤ (a0 : Int) := oD_; have O0 : a0 < (E0.length : Int) := (by have h_ : (a0 : Int) < ((d0.length : Int) : Int) := oD_; first | (have e_ := (uU b0.o).1; omega) | simpa only [H0.o, List.length_set] using h_); have ql373 : ((a0 : Int) < ((d0.length : Int) : Int)) = True := Aa oD_; obtain ⟨f1, H1, j0⟩ := uX (uU b0.o).2.2 a0 N0 O0; obtain rfl : (⟨go18, 0, none⟩ : Addr) = f1 := (by injection H1); (first | simp only [ch] at j0 | simp only [ow] at j0 | simp only [Addr.add, Nat.zero_add] at j0 | skip); replace N0 := Aa N0; replace O0 := Aa O0; have I1 : 0 ≤ (a0 : Int) := oD_; have J1 : (a0 : Int) < ((d0.length : Int) : Int) := oD_; obtain ⟨K1, hf19_0⟩ := uZ 0 b0.o (a0 : Int) I1 J1; replace I1 := Aa I1; replace J1 := Aa J1; obtain ⟨R1, hz23_⟩ := uZ 0 b0.o (a0 : Int) oD_ oD_; have HP23 := vj b0.o (a0 : Int) (Int.tmod (wrap64 ((rd E0 a0) + (Int.tmod (wrap64 (y0 * (rd d0 (e0)))) 3329))) 3329)) | ((refine cz (t := 3) (p := 71) rfl ?_); refine st_ 3 71 HP23 Y0 e1 fun f2 hw hp_ hg HBn => ?_; obtain ⟨b0, HB⟩ := b_ (hp_) <| c_ HBn.o; clear hg hw hp_))
  go_roundg k3
  case measure => have := P0.o; have := Q0.o; have := j1.o; omega
  case rel => exact ⟨(A1), (wrap64 (a0 + 1)), f0_, H', ⟨by have := P0.o; have := Q0.o; have := j1.o; omega⟩, ⟨rR_ b0.o⟩, ⟨hB_⟩⟩
 ·replace c3 := Ea c3
  subst c3
  replace H := iF_ H
  obtain ⟨Z1, t0⟩ : ∃ y_ : List Int, y_ = (([] : List Int)) := ⟨_, rfl⟩
  first | replace H := yb_ t0 H | rw [← t0] at H
  have g1 := c_ t0
  clear t0
  obtain rfl := Ba H
  go_enter Tryz.func19, Tryz.ntmps19
  go_wp2_with (first | (refine gp_ (k_ 11 Tryz.func47) (au.calls _ _ _ _ _ _ (cR_ m1.o) M1.o A2.o) fun nd => ?_) | (refine lj_ 13 .i64 3 g1 fun b2 g2 i1 HB => ?_))
  go_ret
  exact ⟨_, f1_, rR_ i1.o, hB_⟩
def ax.l0 : Nat → Int → Int → Int → Option (Int)
 | 0, _, _, _ => none
 | k + 1, x0, x3, x4 => if x4 < x0 then (ax.l0 k x0 (wrap64 (2 * x3)) (wrap64 (x4 + 1))) else (some x3)
def ax.f (k : Nat) (a0 : Int) : Option (Int) := ax.l0 k a0 1 0
theorem ax.mono_l : ∀ k, (∀ y0 y1 y2, LeO (ax.l0 k y0 y1 y2) (ax.l0 (k + 1) y0 y1 y2))
 | 0 => fun _ _ _ r h => by simp [ax.l0] at h
 | k + 1 => by
  have ih0 := ax.mono_l k
  intros; unfold ax.l0; exact o1_ ih0
theorem ax.mono : ∀ a0 k, LeO (ax.f k a0) (ax.f (k + 1) a0) := by
 intro a0 k
 have ih0 := ax.mono_l k
 unfold ax.f
 exact o1_ ih0
theorem ax.calls (k : Nat) (a0 : Int) (r : Int) (w : World) (h : ax.f k a0 = some r) :
  Calls Tryz.prog 88 #[.int .i64 a0] w fun e w' => e = .returned (.int .i64 r) ∧ cx w w' := by
 delta ax.f at h
 have H := h
 clear h
 have H' := c_ H
 clear H
 go_enter Tryz.func88, Tryz.ntmps88
 go_wp2
 go_loopg [3, 4] k (fun kq v3 v4 w' => ∃ (d0 : Int) (b0 : Int), v3 = .int .i64 d0 ∧ v4 = .int .i64 b0 ∧ aa (ax.l0 kq a0 d0 b0 = some r) ∧ aa (kq ≤ k) ∧ cx w w')
 case atStart => exact ⟨(1), (0), f0_, f0_, H', ⟨Ca _⟩, d0_⟩
 clear H'
 obtain ⟨d0, b0, rfl, rfl, HA, f0, ⟨m1, rfl⟩⟩ := hrel
 rcases gk with _ | k1
 ·exact absurd HA.o (by simp [ax.l0])
 have H := HA.o
 clear HA
 simp only [ax.l0] at H
 by_cases c2 : b0 < a0
 ·rw [Fa c2] at H
  have e0 := ya c2
  clear c2
  have H' := c_ H
  clear H
  go_wp2
  go_roundg k1
  case measure => have := f0.o; omega
  case rel => exact ⟨(wrap64 (2 * d0)), (wrap64 (b0 + 1)), f0_, f0_, H', ⟨by have := f0.o; omega⟩, d0_⟩
 rw [Ga c2] at H
 have e0 := za c2
 clear c2
 obtain rfl := Ba H
 go_wp2
 go_ret
 exact ⟨f0_, d0_⟩
end Go.Proofs.YtmiackbomcjboaaGreatDoor.P
