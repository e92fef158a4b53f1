-- printed texts of this session, regrouped
import Derived.Test.YtooanbpkknlmjaaGreatDoorMW8
import Derived.Test.YtooanbpkknlmjaaGreatDoorPx2
namespace Go.Proofs.YtooanbpkknlmjaaGreatDoor.P
open Go.RowKit YtooanbpkknlmjaaGreatDoorW.PrintWords YtooanbpkknlmjaaGreatDoorW.PrintLast YtooanbpkknlmjaaGreatDoorW.PrintMore
open Kd
attribute [local go_sem] dZ d4 eE ev dx dy dV dX
set_option linter.unusedVariables false
set_option linter.unusedSimpArgs false
set_option maxHeartbeats 8000000
set_option maxRecDepth 100000
mutual
def af.l0 : Nat → List Int → List Int → List Int → Int → Option (List Int)
 | 0, _, _, _, _ => none
 | k + 1, x0, x1, x7, x8 => if x8 < 64 then (if 0 ≤ (wrap64 (x8 - 2)) then (if (wrap64 (x8 - 2)) < (x7.length : Int) then ((cV.f (rd x7 (wrap64 (x8 - 2))) 131072 524288 1024 true).bind fun t329 => (if 0 ≤ (wrap64 (x8 - 7)) then (if (wrap64 (x8 - 7)) < (x7.length : Int) then (if 0 ≤ (wrap64 (x8 - 15)) then (if (wrap64 (x8 - 15)) < (x7.length : Int) then ((cV.f (rd x7 (wrap64 (x8 - 15))) 128 262144 8 true).bind fun t332 => (if 0 ≤ (wrap64 (x8 - 16)) then (if (wrap64 (x8 - 16)) < (x7.length : Int) then (if x7.length < 35184372088832 then (af.l0 k x0 x1 (x7 ++ [(((((t329 + (rd x7 (wrap64 (x8 - 7)))) % 4294967296) + t332) % 4294967296) + (rd x7 (wrap64 (x8 - 16)))) % 4294967296]) (wrap64 (x8 + 1))) else (none)) else (none)) else (none))) else (none)) else (none)) else (none)) else (none))) else (none)) else (none)) else ((some (([] : List Int) : List Int)).bind fun y337 => (if y337.length + x0.length < 35184372088832 then (af.l1 k x0 x1 x7 (y337 ++ x0) 0) else (none)))
def af.l1 : Nat → List Int → List Int → List Int → List Int → Int → Option (List Int)
 | 0, _, _, _, _, _ => none
 | k + 1, x0, x1, x7, x9, x10 => if x10 < 64 then (if 4 < (x9.length : Int) then (if 5 < (x9.length : Int) then (if 6 < (x9.length : Int) then (if 7 < (x9.length : Int) then ((cV.f (rd x9 4) 64 2048 33554432 false).bind fun t347 => (if 0 ≤ x10 then (if x10 < (x1.length : Int) then (if x10 < (x7.length : Int) then (if 0 < (x9.length : Int) then (if 1 < (x9.length : Int) then (if 2 < (x9.length : Int) then ((cV.f (rd x9 0) 4 8192 4194304 false).bind fun t357 => (af.l2 k x0 x1 x7 x9 x10 (((((((((rd x9 7) + t347) % 4294967296) + (Go.bits .xor .u32 (Go.bits .and .u32 (rd x9 4) (rd x9 5)) (Go.bits .and .u32 ((4294967295 - (rd x9 4)) % 4294967296) (rd x9 6)))) % 4294967296) + (rd x1 x10)) % 4294967296) + (rd x7 x10)) % 4294967296) ((t357 + (Go.bits .xor .u32 (Go.bits .xor .u32 (Go.bits .and .u32 (rd x9 0) (rd x9 1)) (Go.bits .and .u32 (rd x9 0) (rd x9 2))) (Go.bits .and .u32 (rd x9 1) (rd x9 2)))) % 4294967296) 7)) else (none)) else (none)) else (none)) else (none)) else (none)) else (none))) else (none)) else (none)) else (none)) else (none)) else (af.l3 k x0 x9 (([] : List Int)) 0)
def af.l2 : Nat → List Int → List Int → List Int → List Int → Int → Int → Int → Int → Option (List Int)
 | 0, _, _, _, _, _, _, _, _ => none
 | k + 1, x0, x1, x7, x9, x10, x13, x15, x16 => if x16 > 0 then (if 0 ≤ (wrap64 (x16 - 1)) then (if (wrap64 (x16 - 1)) < (x9.length : Int) then (if 0 ≤ x16 then (if x16 < (x9.length : Int) then (af.l2 k x0 x1 x7 (x9.set (x16 : Int).toNat (rd x9 (wrap64 (x16 - 1)))) x10 x13 x15 (wrap64 (x16 - 1))) else (none)) else (none)) else (none)) else (none)) else (if 4 < (x9.length : Int) then (if 0 < (x9.length : Int) then (af.l1 k x0 x1 x7 ((x9.set (4 : Int).toNat (((rd x9 4) + x13) % 4294967296)).set (0 : Int).toNat ((x13 + x15) % 4294967296)) (wrap64 (x10 + 1))) else (none)) else (none))
def af.l3 : Nat → List Int → List Int → List Int → Int → Option (List Int)
 | 0, _, _, _, _ => none
 | k + 1, x0, x9, x17, x18 => if x18 < 8 then (if 0 ≤ x18 then (if x18 < (x0.length : Int) then (if x18 < (x9.length : Int) then (if x17.length < 35184372088832 then (af.l3 k x0 x9 (x17 ++ [((rd x0 x18) + (rd x9 x18)) % 4294967296]) (wrap64 (x18 + 1))) else (none)) else (none)) else (none)) else (none)) else (some x17)
end
def af.f (k : Nat) (l0 : List Int) (l1 : List Int) (a2 : ByteArray) : Option (List Int) := (bm.f k a2).bind fun t325 => (af.l0 k l0 l1 t325 16)
theorem af.mono_l : ∀ k, (∀ y0 y1 y2 y3, LeO (af.l0 k y0 y1 y2 y3) (af.l0 (k + 1) y0 y1 y2 y3)) ∧ (∀ y0 y1 y2 y3 y4, LeO (af.l1 k y0 y1 y2 y3 y4) (af.l1 (k + 1) y0 y1 y2 y3 y4)) ∧ (∀ y0 y1 y2 y3 y4 y5 y6 y7, LeO (af.l2 k y0 y1 y2 y3 y4 y5 y6 y7) (af.l2 (k + 1) y0 y1 y2 y3 y4 y5 y6 y7)) ∧ (∀ y0 y1 y2 y3, LeO (af.l3 k y0 y1 y2 y3) (af.l3 (k + 1) y0 y1 y2 y3))
 | 0 => ⟨fun _ _ _ _ r h => by simp [af.l0] at h, fun _ _ _ _ _ r h => by simp [af.l1] at h, fun _ _ _ _ _ _ _ _ r h => by simp [af.l2] at h, fun _ _ _ _ r h => by simp [af.l3] at h⟩
 | k + 1 => by
  obtain ⟨ih0, ih1, ih2, ih3⟩ := af.mono_l k
  refine ⟨?_, ?_, ?_, ?_⟩ <;> (intros; (first | unfold af.l0 | unfold af.l1 | unfold af.l2 | unfold af.l3); exact o5_ ih0 ih1 ih2 ih3 bm.mono)
theorem af.mono : ∀ a0 a1 a2 k, LeO (af.f k a0 a1 a2) (af.f (k + 1) a0 a1 a2) := by
 intro a0 a1 a2 k
 obtain ⟨ih0, ih1, ih2, ih3⟩ := af.mono_l k
 unfold af.f
 exact o5_ ih0 ih1 ih2 ih3 bm.mono
def af.T5 : Bool × List (List Nat × List Nat) := (true, [([], []), ([], []), ([], []), ([2], [2]), ([1, 3], [1, 3]), ([4], [4]), ([5], [5]), ([], []), ([], []), ([8], [8]), ([7, 9], [7, 9]), ([10], [10]), ([6, 11], [6, 11]), ([], []), ([], []), ([14], [14]), ([13, 15], [13, 15]), ([16], [16]), ([17, 6], [17]), ([12, 18], [12, 18]), ([], []), ([], []), ([21], [21]), ([20, 22], [20, 22]), ([23], [23]), ([19, 24], [19, 24]), ([25], [25]), ([0, 26, 18], [0, 26]), ([27, 27, 0, 1, 2, 3, 4, 5, 6, 7, 8, 9, 10, 11, 12, 13, 14, 15, 16, 17, 18, 19, 20, 21, 22, 23, 24, 25, 26, 27], [0, 1, 7, 13, 20, 27])])
def af.B5 : List Nat := [0, 0, 0, 4, 14, 30, 62, 0, 0, 256, 896, 1920, 4094, 0, 0, 16384, 57344, 122880, 254078, 524286, 0, 0, 2097152, 7340032, 15728640, 33554430, 67108862, 134217727, 268435455]
theorem af.tab5 : d8 .any (fb Tryz.f42 5) = af.T5 := by kernel_rfl
theorem af.bits5 : db af.T5.2 af.B5 = true := by kernel_rfl
def af.T11 : Bool × List (List Nat × List Nat) := (true, [([], []), ([], []), ([1], [1]), ([2], [2]), ([0, 3], [0, 3]), ([], []), ([5], [5]), ([], []), ([7], [7]), ([8], [8]), ([6, 9], [6, 9]), ([4, 10], [4, 10]), ([11, 0, 1, 2, 3, 4, 5, 6, 7, 8, 9, 10, 11], [11])])
def af.B11 : List Nat := [0, 0, 2, 6, 15, 0, 32, 0, 128, 384, 992, 2047, 4095]
theorem af.tab11 : d8 .any (fb Tryz.f42 11) = af.T11 := by kernel_rfl
theorem af.bits11 : db af.T11.2 af.B11 = true := by kernel_rfl
def af.T12 : Bool × List (List Nat × List Nat) := (true, [([], []), ([0], [0]), ([1], [1]), ([], []), ([3], [3]), ([2, 4], [2, 4]), ([], []), ([5, 6], [5, 6]), ([], []), ([], []), ([8, 9], [8, 9]), ([10], [10]), ([7, 11], [7, 11]), ([], []), ([], []), ([13, 14], [13, 14]), ([15], [15]), ([12, 16], [12, 16]), ([17, 4, 0, 1, 2, 3, 4, 5, 6, 7, 8, 9, 10, 11, 12, 13, 14, 15, 16, 17], [17])])
def af.B12 : List Nat := [0, 1, 3, 0, 8, 31, 0, 127, 0, 0, 768, 1792, 4095, 0, 0, 24576, 57344, 131071, 262143]
theorem af.tab12 : d8 .any (fb Tryz.f42 12) = af.T12 := by kernel_rfl
theorem af.bits12 : db af.T12.2 af.B12 = true := by kernel_rfl
def af.T13 : Bool × List (List Nat × List Nat) := (true, [([], []), ([0], [0]), ([1], [1]), ([], []), ([3], [3]), ([4], [4]), ([2, 5], [2, 5]), ([], []), ([7], [7]), ([8], [8]), ([], []), ([10], [10]), ([11], [11]), ([9, 12], [9, 12]), ([6, 13], [6, 13]), ([], []), ([15], [15]), ([16], [16]), ([], []), ([18], [18]), ([19], [19]), ([17, 20], [17, 20]), ([14, 21], [14, 21]), ([22, 0, 1, 2, 3, 4, 5, 6, 7, 8, 9, 10, 11, 12, 13, 14, 15, 16, 17, 18, 19, 20, 21, 22], [22])])
def af.B13 : List Nat := [0, 1, 3, 0, 8, 24, 63, 0, 128, 384, 0, 1024, 3072, 8064, 16383, 0, 32768, 98304, 0, 262144, 786432, 2064384, 4194303, 8388607]
theorem af.tab13 : d8 .any (fb Tryz.f42 13) = af.T13 := by kernel_rfl
theorem af.bits13 : db af.T13.2 af.B13 = true := by kernel_rfl
def af.T25 : Bool × List (List Nat × List Nat) := (true, [([], []), ([], []), ([], []), ([1, 2], [1, 2]), ([3], [3]), ([], []), ([], []), ([5, 6], [5, 6]), ([7], [7]), ([4, 8], [4, 8]), ([9], [9]), ([0, 10], [0, 10]), ([11, 11, 0, 1, 2, 3, 4, 5, 6, 7, 8, 9, 10, 11], [0, 11])])
def af.B25 : List Nat := [0, 0, 0, 6, 14, 0, 0, 96, 224, 510, 1022, 2047, 4095]
theorem af.tab25 : d8 .any (fb Tryz.f42 25) = af.T25 := by kernel_rfl
theorem af.bits25 : db af.T25.2 af.B25 = true := by kernel_rfl
theorem af.calls (k : Nat) (A0 : Option Addr) (c0 : Nat) (l0 : List Int) (A1 : Option Addr) (c1 : Nat) (l1 : List Int) (a2 : ByteArray) (r : List Int) (w : World) (hr0 : Kd.C (Kd.int .u32) w A0 l0.length l0) (hc0 : l0.length ≤ c0) (hr1 : Kd.C (Kd.int .u32) w A1 l1.length l1) (hc1 : l1.length ≤ c1) (h : af.f k l0 l1 a2 = some r) :
  Calls Tryz.prog 42 #[.slice A0 l0.length c0, .slice A1 l1.length c1, .string a2] w fun e w' => ∃ E5 : Value, e = .returned (E5) ∧ Kd.R (Kd.int .u32) 39 w' w.heap.size (fun _ => True) E5 r ∧ Below w.heap.size w w' := by
 have F5 := c_ hr0
 have A7 := c_ hc0
 clear hr0 hc0
 have P6 := c_ hr1
 have B7 := c_ hc1
 clear hr1 hc1
 have HB := c_ (Ba w.heap.size w)
 delta af.f at h
 have H := h
 clear h
 obtain ⟨Y2, A4, H⟩ := bN_ H
 have H' := c_ H
 clear H
 go_enter Tryz.func42, Tryz.ntmps42
 go_wp2_with (first | (refine gq_ 40 (some 20) Tryz.func40 #[.string a2] (bm.calls k a2 Y2 _ A4.o) ?_; rintro e w5 ⟨Q6, rfl, G5, hb⟩; refine ⟨_, rfl, ?_⟩; obtain ⟨Z2, HB⟩ := b_ (sZ G5 (ac (hB_))) <| c_ (ab (hB_) hb); (try clear G5)))
 go_loopg [7, 8] k (fun kq v7 v8 w' => ∃ (f0 : List Int) (E0 : Int), v8 = .int .i64 E0 ∧ aa (af.l0 kq l0 l1 f0 E0 = some r) ∧ aa (kq ≤ k) ∧ aa (Kd.R (Kd.int .u32) 39 w' w.heap.size (fun _ => True) v7 f0) ∧ aa (Below w.heap.size w w'))
 case atStart => exact ⟨(Y2), (16), f0_, H', ⟨Aa _⟩, ⟨rR_ Z2.o⟩, ⟨hB_⟩⟩
 clear H'
 obtain ⟨f0, E0, rfl, HA, L1, j0, HB⟩ := hrel
 rcases gk with _ | k1
 ·exact absurd HA.o (by simp [af.l0])
 have H := HA.o
 clear HA
 simp only [af.l0] at H
 by_cases c6 : E0 < 64
 ·rw [Da c6] at H
  have v4 := wa c6
  clear c6
  obtain ⟨M1, F1⟩ : ∃ j_ : Int, (wrap64 (E0 - 2)) = j_ := ⟨_, rfl⟩
  first | rw [F1] at H | simp only [F1] at H
  have H5 : (IntKind.i64.wrap (E0 - 2)) = M1 := (bv _).trans F1
  obtain ⟨R6, H⟩ := iD_ H
  obtain ⟨S6, H⟩ := iD_ H
  obtain ⟨G1, u4, H⟩ := bN_ H
  obtain ⟨K0, Y0⟩ : ∃ j_ : Int, (wrap64 (E0 - 7)) = j_ := ⟨_, rfl⟩
  first | rw [Y0] at H | simp only [Y0] at H
  (try rw [Y0] at u4)
  have w4 : (IntKind.i64.wrap (E0 - 7)) = K0 := (bv _).trans Y0
  obtain ⟨I5, H⟩ := iD_ H
  obtain ⟨J5, H⟩ := iD_ H
  obtain ⟨P0, Q0⟩ : ∃ j_ : Int, (wrap64 (E0 - 15)) = j_ := ⟨_, rfl⟩
  first | rw [Q0] at H | simp only [Q0] at H
  (try rw [Q0] at u4)
  have y4 : (IntKind.i64.wrap (E0 - 15)) = P0 := (bv _).trans Q0
  obtain ⟨K5, H⟩ := iD_ H
  obtain ⟨L5, H⟩ := iD_ H
  obtain ⟨H1, M5, H⟩ := bN_ H
  obtain ⟨L0, R0⟩ : ∃ j_ : Int, (wrap64 (E0 - 16)) = j_ := ⟨_, rfl⟩
  first | rw [R0] at H | simp only [R0] at H
  (try rw [R0] at u4)
  (try rw [R0] at M5)
  have z4 : (IntKind.i64.wrap (E0 - 16)) = L0 := (bv _).trans R0
  obtain ⟨N5, H⟩ := iD_ H
  obtain ⟨O5, H⟩ := iD_ H
  obtain ⟨P5, H⟩ := iN_ H
  have b3 := c_ P5
  clear P5
  obtain ⟨B4, Z0⟩ : ∃ y_ : List Int, y_ = (f0 ++ [(((((G1 + (rd f0 (K0))) % 4294967296) + H1) % 4294967296) + (rd f0 (L0))) % 4294967296]) := ⟨_, rfl⟩
  first | replace H := yb_ Z0 H | rw [← Z0] at H
  have c3 := c_ Z0
  clear Z0
  have H' := c_ H
  clear H
  try go_wp2
  obtain ⟨j0, HB⟩ := b_ (tl j0.o) <| c_ (b8 HB.o)
  obtain ⟨T6, C4, e3⟩ := s7 j0.o
  (first | subst e3 | (injection e3 with f1_ f2_ f3_; have f4_ := f1_.symm; have f5_ := f3_.symm; clear f1_ f2_ f3_; subst f4_; subst f5_))
  have R1 : 0 ≤ ((M1) : Int) := oD_
  have S1 : (M1) < (f0.length : Int) := oD_
  obtain ⟨G0, D4, b1⟩ := tb (sX j0.o).2.2 (M1) R1 S1
  cases D4
  replace R1 := ya R1
  replace S1 := ya S1
  have T1 : 0 ≤ ((K0) : Int) := oD_
  have U1 : (K0) < (f0.length : Int) := oD_
  obtain ⟨f3, E4, d1⟩ := tb (sX j0.o).2.2 (K0) T1 U1
  obtain rfl : G0 = f3 := (by injection E4)
  replace T1 := ya T1
  replace U1 := ya U1
  have V1 : 0 ≤ ((P0) : Int) := oD_
  have X1 : (P0) < (f0.length : Int) := oD_
  obtain ⟨g3, F4, e1⟩ := tb (sX j0.o).2.2 (P0) V1 X1
  obtain rfl : G0 = g3 := (by injection F4)
  replace V1 := ya V1
  replace X1 := ya X1
  have Y1 : 0 ≤ ((L0) : Int) := oD_
  have Z1 : (L0) < (f0.length : Int) := oD_
  obtain ⟨i3, G4, f1⟩ := tb (sX j0.o).2.2 (L0) Y1 Z1
  obtain rfl : G0 = i3 := (by injection G4)
  replace Y1 := ya Y1
  replace Z1 := ya Z1
  refine d9 (n := 29) (S := fun w' => w'.cell? (G0.add ((M1)).toNat) = some (.int .u32 (rd f0 (M1))) ∧ w'.cell? (G0.add ((K0)).toNat) = some (.int .u32 (rd f0 (K0))) ∧ w'.cell? (G0.add ((P0)).toNat) = some (.int .u32 (rd f0 (P0))) ∧ w'.cell? (G0.add ((L0)).toNat) = some (.int .u32 (rd f0 (L0)))) (ds := [26, 27]) (bb_ 29 0) (by kernel_rfl) rfl rfl ⟨b1, d1, e1, f1⟩ (fun hHeld => ?_); refine cN af.tab5 af.bits5 (fun HT_ HW_ => ?_)
  generalize wr.drew = C7 at j0 HB b1 d1 e1 f1 hHeld ⊢
  refine pT_ 0 25 29 1 ?_
  refine pT_ 1 26 29 3 ?_
  refine pT_ 2 27 29 7 ?_
  refine pT_ 3 28 29 15 ?_
  refine pT_ 4 29 29 31 ?_
  refine pT_ 7 32 29 159 ?_
  refine pT_ 8 33 29 415 ?_
  refine pT_ 9 34 29 927 ?_
  refine pT_ 10 35 29 1951 ?_
  refine pT_ 13 38 29 10143 ?_
  refine pT_ 14 39 29 26527 ?_
  refine pT_ 15 40 29 59295 ?_
  refine pT_ 16 41 29 124831 ?_
  refine pT_ 20 45 29 1173407 ?_
  refine pT_ 21 46 29 3270559 ?_
  refine pT_ 22 47 29 7464863 ?_
  refine pT_ 23 48 29 15853471 ?_
  refine tS_ 5 30 (bb_ 29 15853503) (bx HT_.o HW_.o (by kernel_rfl)) hHeld ?_
  refine tS_ 11 36 (bb_ 29 15855551) (bx HT_.o HW_.o (by kernel_rfl)) hHeld ?_
  refine tS_ 17 42 (bb_ 29 15986623) (bx HT_.o HW_.o (by kernel_rfl)) hHeld ?_
  refine tS_ 24 49 (bb_ 29 32763839) (bx HT_.o HW_.o (by kernel_rfl)) hHeld ?_
  refine fC (i := 6) (N := some 31) (bb_ 29 32763903) rfl rfl (cD HT_.o (by kernel_rfl)) (by decide) (fun K hK => ?_)
  refine fv Tryz.func77 (by kernel_rfl) rfl #[.int .u32 (rd f0 (M1)), .int .u32 131072, .int .u32 524288, .int .u32 1024, .bool true] (by rfl) rfl rfl (by (try simp only [List.map_toArray, List.map_cons, List.map_nil]); first | done | (simp only [F1]; rfl) | rfl | (simp only [List.length_drop, List.length_take]; rfl)) ?_
  with_reducible refine (cV.calls (rd f0 (M1)) 131072 524288 1024 true G1 _ u4.o).mono ?_
  rintro e w' ⟨rfl, ⟨nd, rfl⟩⟩
  refine ⟨_, rfl, ?_⟩
  refine hK _ _ ⟨hHeld.1, hHeld.2.1, hHeld.2.2.1, hHeld.2.2.2⟩ (fun hHeld => ?_)
  clear hK K
  refine dL (a' := ?_) ?_ ?_
  rotate_left
  ·show Act.put _ (some 31) _ = _
   simp only [Act.put, List.setIfInBounds_toArray, List.set_cons_zero, List.set_cons_succ, bv, cG]
   rfl
  refine pT_ 12 37 29 32767999 ?_
  refine fC (i := 18) (N := some 43) (bb_ 29 33030143) rfl rfl (cD HT_.o (by kernel_rfl)) (by decide) (fun K hK => ?_)
  refine fv Tryz.func77 (by kernel_rfl) rfl #[.int .u32 (rd f0 (P0)), .int .u32 128, .int .u32 262144, .int .u32 8, .bool true] (by rfl) rfl rfl (by (try simp only [List.map_toArray, List.map_cons, List.map_nil]); first | done | (simp only [Q0]; rfl) | rfl | (simp only [List.length_drop, List.length_take]; rfl)) ?_
  with_reducible refine (cV.calls (rd f0 (P0)) 128 262144 8 true H1 _ M5.o).mono ?_
  rintro e w' ⟨rfl, ⟨nd, rfl⟩⟩
  refine ⟨_, rfl, ?_⟩
  refine hK _ _ ⟨hHeld.1, hHeld.2.1, hHeld.2.2.1, hHeld.2.2.2⟩ (fun hHeld => ?_)
  clear hK K
  refine dL (a' := ?_) ?_ ?_
  rotate_left
  ·show Act.put _ (some 43) _ = _
   simp only [Act.put, List.setIfInBounds_toArray, List.set_cons_zero, List.set_cons_succ, bv, cG]
   rfl
  refine pT_ 19 44 29 33554431 ?_
  refine pT_ 25 50 29 67108863 ?_
  refine gv (i := 26) (N := some 51) (bb_ 29 134217727) rfl rfl (cD HT_.o (by kernel_rfl)) (by decide) (fun K hK => ?_)
  refine m0 (w1 := ?_) (v := ?_) (by rfl) rfl ?_ ?_
  rotate_left 2
  ·go_simp
   constructor
   ·rfl
   ·rfl
  refine hK _ _ ?_
  clear hK K
  refine dL (a' := ?_) ?_ ?_
  rotate_left
  ·show Act.put _ (some 51) _ = _
   simp only [Act.put, List.setIfInBounds_toArray, List.set_cons_zero, List.set_cons_succ, bv, cG]
   rfl
  refine gv (i := 27) (N := some 52) (bb_ 29 268435455) rfl rfl (cD HT_.o (by kernel_rfl)) (by decide) (fun K hK => ?_)
  refine tD (Kd.int .u32) (w0 := w) w.heap.size (by rfl) (.tmp 25) (.tmp 51) 60 39 (.int .u32 0) 4 rfl Tryz.underlying60 mZ rfl (by decide) (by omega) (.slice (some G0) f0.length C4) f0 ((((((G1 + (rd f0 (K0))) % 4294967296) + H1) % 4294967296) + (rd f0 (L0))) % 4294967296) [.int .u32 ((((((G1 + (rd f0 (K0))) % 4294967296) + H1) % 4294967296) + (rd f0 (L0))) % 4294967296)] (fun _ => True) (fun _ => False) rfl rfl ?aP (fun _ hk => hk.elim) ?aF ?aO ?aB ?aS ?aL ?_
  (case aP => exact rfl)
  (case aB => exact (hB_))
  (case aF => exact (fun _ _ => trivial))
  (case aO => exact (rR_ j0.o))
  (case aS => exact (ac (hB_)))
  (case aL => have := b3.o; omega)
  intro U6 D7 ho hb hg hat
  rw [← c3.o] at ho
  obtain ⟨HB, m3⟩ := b_ (hb) <| c_ (ho)
  clear ho hb hg hat
  refine hK _ _ ?_
  clear hK K
  refine dL (a' := ?_) ?_ ?_
  rotate_left
  ·show Act.put _ (some 52) _ = _
   simp only [Act.put, List.setIfInBounds_toArray, List.set_cons_zero, List.set_cons_succ, bv, cG]
   rfl
  refine pT_ 28 7 29 536870911 ?_
  refine fc (du HT_.o (by kernel_rfl)) ?_
  try go_wp2
  go_roundg k1
  case measure => have := L1.o; omega
  case rel => exact ⟨(B4), (wrap64 (E0 + 1)), f0_, H', ⟨by have := L1.o; omega⟩, ⟨rR_ m3.o⟩, ⟨hB_⟩⟩
 rw [Ea c6] at H
 have v4 := xa c6
 clear c6
 obtain ⟨n3, g1⟩ : ∃ y_ : List Int, y_ = (([] : List Int)) := ⟨_, rfl⟩
 first | replace H := yb_ g1 H | rw [← g1] at H
 have N1 := c_ g1
 clear g1
 obtain ⟨Q5, H⟩ := iN_ H
 have p3 := c_ Q5
 clear Q5
 obtain ⟨H4, i1⟩ : ∃ y_ : List Int, y_ = (n3 ++ l0) := ⟨_, rfl⟩
 first | replace H := yb_ i1 H | rw [← i1] at H
 have q3 := c_ i1
 clear i1
 have H' := c_ H
 clear H
 go_wp2_with (first | ((refine aI (N := 53) rfl ?_); refine tn (Kd.int .u32) _ 39 ?hg (N := 53) ?hd (xs := ([] : List Int)) (inner := []) (ok := fun _ => True) (okp := fun _ => True) ?hr ?hp (fun _ hk => hk) trivial (Ba _ _) (Aa _) (by simp) ?_; (case hd => rfl); (case hg => rfl); (case hr => first | (go_simp; done) | (go_simp; rfl)); (case hp => exact (bA.none _ _)); intro I4 E7 B1 hb hg_ hnew_; clear hg_ hnew_; (first | rw [← N1.o] at B1 | (simp only [Int.reduceToNat] at B1; rw [← N1.o] at B1)); obtain ⟨j0, r3, HB⟩ := b_ (s5 (rR_ j0.o) (sY B1) hb) <| b_ (sZ (ta B1 (ti (rR_ j0.o))) (ac (hB_))) <| c_ (ab (hB_) hb); clear hb B1) | ((refine aU (b := .append) (xs := #[.tmp 53, .tmp 54]) rfl ?_); at_builtin; refine tA (Kd.int .u32) (w0 := w) w.heap.size rfl (.tmp 53) (.tmp 54) 60 39 (.int .u32 0) 4 rfl Tryz.underlying60 mZ rfl (by decide) (by omega) I4 n3 l0 _ _ _ (fun k_ => some k_ ≠ (u7 : Value).ownBlock) (fun _ => False) rfl rfl ?aO ?aR (fun _ _ h => h) (fun _ h => h.elim) ?aF ?aB ?aS ?aL ?_; (case aR => exact cR_ (tg F5.o HB.o)); (case aB => exact (hB_)); (case aF => exact (fun k_ hk => Kd.fresh' (ti (rR_ j0.o)) k_ hk)); (case aO => exact (by refine kR_ ?_; exact s9 r3.o (fun _ hk => hk.2))); (case aS => exact (ac (hB_))); (case aL => have := p3.o; omega); intro I1 F7 ho hb hg hat; rw [← q3.o] at ho; obtain ⟨j0, HB, t3⟩ := b_ (tC (ok := (fun _ => True)) (rR_ j0.o) hg hat) <| b_ (hb) <| c_ (ho); clear ho hb hg hat))
 go_loopg [10] k1 (fun kq V6 w' => ∃ (a0 : List Int) (e0 : Int), V6 = .int .i64 e0 ∧ aa (af.l1 kq l0 l1 f0 a0 e0 = some r) ∧ aa (kq ≤ k1) ∧ aa (Kd.R (Kd.int .u32) 39 w' w.heap.size (fun k_ => some k_ ≠ (I1 : Value).ownBlock) u7 f0) ∧ aa (Kd.R (Kd.int .u32) 39 w' w.heap.size (fun k_ => some k_ ≠ (u7 : Value).ownBlock) I1 a0) ∧ aa (Below w.heap.size w w'))
 case atStart => exact ⟨(H4), (0), f0_, H', ⟨Aa _⟩, ⟨by refine kR_ ?_; exact s9 j0.o (fun _ hk => hk.2)⟩, ⟨rR_ t3.o⟩, ⟨hB_⟩⟩
 clear H'
 obtain ⟨a0, e0, rfl, HA, T2, j0, b0, HB⟩ := hrel
 rcases gk with _ | k2
 ·exact absurd HA.o (by simp [af.l1])
 have H := HA.o
 clear HA
 simp only [af.l1] at H
 by_cases U2 : e0 < 64
 rotate_left
 ·rw [Ea U2] at H
  have u3 := xa U2
  clear U2
  obtain ⟨J4, j1⟩ : ∃ y_ : List Int, y_ = (([] : List Int)) := ⟨_, rfl⟩
  first | replace H := yb_ j1 H | rw [← j1] at H
  have O1 := c_ j1
  clear j1
  have H' := c_ H
  clear H
  go_wp2_with (first | ((refine aI (N := 146) rfl ?_); refine tn (Kd.int .u32) _ 39 ?hg (N := 146) ?hd (xs := ([] : List Int)) (inner := []) (ok := fun _ => True) (okp := fun _ => True) ?hr ?hp (fun _ hk => hk) trivial (Ba _ _) (Aa _) (by simp) ?_; (case hd => rfl); (case hg => rfl); (case hr => first | (go_simp; done) | (go_simp; rfl)); (case hp => exact (bA.none _ _)); intro W6 G7 W0 hb hg_ hnew_; clear hg_ hnew_; (first | rw [← O1.o] at W0 | (simp only [Int.reduceToNat] at W0; rw [← O1.o] at W0)); obtain ⟨j0, b0, v3, HB⟩ := b_ (s5 (rR_ j0.o) (sY W0) hb) <| b_ (s5 (rR_ b0.o) (sY W0) hb) <| b_ (sZ (ta (ta W0 (ti (rR_ j0.o))) (ti (rR_ b0.o))) (ac (hB_))) <| c_ (ab (hB_) hb); clear hb W0))
  go_loopg [17, 18] k2 (fun kq R5 X6 w' => ∃ (S0 : List Int) (k0 : Int), X6 = .int .i64 k0 ∧ aa (af.l3 kq l0 a0 S0 k0 = some r) ∧ aa (kq ≤ k2) ∧ aa (Kd.R (Kd.int .u32) 39 w' w.heap.size (fun k_ => some k_ ≠ (R5 : Value).ownBlock) I1 a0) ∧ aa (Kd.R (Kd.int .u32) 39 w' w.heap.size (fun k_ => some k_ ≠ (I1 : Value).ownBlock) R5 S0) ∧ aa (Below w.heap.size w w'))
  case atStart => exact ⟨(J4), (0), f0_, H', ⟨Aa _⟩, ⟨by refine kR_ ?_; exact s9 b0.o (fun _ hk => hk.2)⟩, ⟨by refine kR_ ?_; exact s9 v3.o (fun _ hk => hk.2)⟩, ⟨hB_⟩⟩
  clear H'
  obtain ⟨S0, k0, rfl, HA, b2, b0, T0, HB⟩ := hrel
  rcases gk with _ | k3
  ·exact absurd HA.o (by simp [af.l3])
  have H := HA.o
  clear HA
  simp only [af.l3] at H
  by_cases V2 : k0 < 8
  rotate_left
  ·rw [Ea V2] at H
   have w3 := xa V2
   clear V2
   obtain rfl := za H
   go_wp2
   go_ret
   exact ⟨_, f1_, by refine kR_ ?_; exact s9 T0.o (fun _ hk => trivial), hB_⟩
  rw [Da V2] at H
  have w3 := wa V2
  clear V2
  obtain ⟨S5, H⟩ := iD_ H
  obtain ⟨T5, H⟩ := iD_ H
  obtain ⟨U5, H⟩ := iD_ H
  obtain ⟨V5, H⟩ := iN_ H
  have y3 := c_ V5
  clear V5
  obtain ⟨K4, m1⟩ : ∃ y_ : List Int, y_ = (S0 ++ [((rd l0 k0) + (rd a0 k0)) % 4294967296]) := ⟨_, rfl⟩
  first | replace H := yb_ m1 H | rw [← m1] at H
  have z3 := c_ m1
  clear m1
  have H' := c_ H
  clear H
  try go_wp2
  obtain ⟨b0, T0, HB⟩ := b_ (tl b0.o) <| b_ (tl T0.o) <| c_ (b8 HB.o)
  have c2 : 0 ≤ (k0 : Int) := oD_
  have d2 : k0 < (l0.length : Int) := oD_
  obtain ⟨A3, L4, I0⟩ := tb F5.o k0 c2 d2
  have J1 := I0
  cases L4
  replace I0 := hc_ I0
  replace c2 := ya c2
  replace d2 := ya d2
  obtain ⟨Y6, M4, B3⟩ := s7 b0.o
  (first | subst B3 | (injection B3 with f1_ f2_ f3_; have f4_ := f1_.symm; have f5_ := f3_.symm; clear f1_ f2_ f3_; subst f4_; subst f5_))
  have e2 : 0 ≤ (k0 : Int) := oD_
  have f2 : k0 < (a0.length : Int) := oD_
  obtain ⟨P1, N4, n1⟩ := tb (sX b0.o).2.2 k0 e2 f2
  cases N4
  replace e2 := ya e2
  replace f2 := ya f2
  refine d9 (n := 13) (S := fun w' => w'.cell? (A3.add (k0).toNat) = some (.int .u32 (rd l0 k0)) ∧ w'.cell? (P1.add (k0).toNat) = some (.int .u32 (rd a0 k0))) (ds := [10, 11]) (bb_ 13 0) (by kernel_rfl) rfl rfl ⟨(hc_ J1), n1⟩ (fun hHeld => ?_); refine cN af.tab25 af.bits25 (fun HT_ HW_ => ?_)
  generalize wr.drew = H7 at b0 T0 HB I0 n1 hHeld ⊢
  refine pT_ 0 151 13 1 ?_
  refine pT_ 1 152 13 3 ?_
  refine pT_ 2 153 13 7 ?_
  refine pT_ 3 154 13 15 ?_
  refine pT_ 5 156 13 47 ?_
  refine pT_ 6 157 13 111 ?_
  refine pT_ 7 158 13 239 ?_
  refine tS_ 4 155 (bb_ 13 255) (bx HT_.o HW_.o (by kernel_rfl)) hHeld ?_
  refine tS_ 8 159 (bb_ 13 511) (bx HT_.o HW_.o (by kernel_rfl)) hHeld ?_
  refine pT_ 9 160 13 1023 ?_
  refine gv (i := 10) (N := some 161) (bb_ 13 2047) rfl rfl (cD HT_.o (by kernel_rfl)) (by decide) (fun K hK => ?_)
  refine m0 (w1 := ?_) (v := ?_) (by rfl) rfl ?_ ?_
  rotate_left 2
  ·go_simp
   constructor
   ·rfl
   ·rfl
  refine hK _ _ ?_
  clear hK K
  refine dL (a' := ?_) ?_ ?_
  rotate_left
  ·show Act.put _ (some 161) _ = _
   simp only [Act.put, List.setIfInBounds_toArray, List.set_cons_zero, List.set_cons_succ, bv, cG]
   rfl
  refine gv (i := 11) (N := some 162) (bb_ 13 4095) rfl rfl (cD HT_.o (by kernel_rfl)) (by decide) (fun K hK => ?_)
  refine tD (Kd.int .u32) (w0 := w) w.heap.size (by rfl) (.tmp 151) (.tmp 161) 60 39 (.int .u32 0) 4 rfl Tryz.underlying60 mZ rfl (by decide) (by omega) u17 S0 (((rd l0 k0) + (rd a0 k0)) % 4294967296) [.int .u32 (((rd l0 k0) + (rd a0 k0)) % 4294967296)] (fun k_ => some k_ ≠ (.slice (some P1) a0.length M4 : Value).ownBlock) (fun _ => False) rfl rfl ?aP (fun _ hk => hk.elim) ?aF ?aO ?aB ?aS ?aL ?_
  (case aP => exact rfl)
  (case aB => exact (hB_))
  (case aF => exact (fun k_ hk => Kd.fresh' (ti (rR_ b0.o)) k_ hk))
  (case aO => exact (rR_ T0.o))
  (case aS => exact (ac (hB_)))
  (case aL => have := y3.o; omega)
  intro Z6 I7 ho hb hg hat
  rw [← z3.o] at ho
  obtain ⟨b0, HB, C3⟩ := b_ (tC (ok := (fun _ => True)) (by refine kR_ ?_; exact s9 b0.o (fun _ hk => ⟨trivial, hk⟩)) hg hat) <| b_ (hb) <| c_ (ho)
  clear ho hb hg hat
  refine hK _ _ ?_
  clear hK K
  refine dL (a' := ?_) ?_ ?_
  rotate_left
  ·show Act.put _ (some 162) _ = _
   simp only [Act.put, List.setIfInBounds_toArray, List.set_cons_zero, List.set_cons_succ, bv, cG]
   rfl
  refine pT_ 12 17 13 8191 ?_
  refine fc (du HT_.o (by kernel_rfl)) ?_
  try go_wp2
  go_roundg k3
  case measure => have := L1.o; have := T2.o; have := b2.o; omega
  case rel => exact ⟨(K4), (wrap64 (k0 + 1)), f0_, H', ⟨by have := L1.o; have := T2.o; have := b2.o; omega⟩, ⟨by refine kR_ ?_; exact s9 b0.o (fun _ hk => hk.2)⟩, ⟨rR_ C3.o⟩, ⟨hB_⟩⟩
 rw [Da U2] at H
 have u3 := wa U2
 clear U2
 obtain ⟨W5, H⟩ := iN_ H
 have X5 := wa W5
 have Y5 : decide (4 < a0.length) = true := wa (by omega)
 clear W5
 obtain ⟨Z5, H⟩ := iN_ H
 have b6 := wa Z5
 have e6 : decide (5 < a0.length) = true := wa (by omega)
 clear Z5
 obtain ⟨f6, H⟩ := iN_ H
 have g6 := wa f6
 have i6 : decide (6 < a0.length) = true := wa (by omega)
 clear f6
 obtain ⟨k6, H⟩ := iN_ H
 have q6 := wa k6
 have v6 : decide (7 < a0.length) = true := wa (by omega)
 clear k6
 obtain ⟨U0, c7, H⟩ := bN_ H
 obtain ⟨w6, H⟩ := iD_ H
 obtain ⟨y6, H⟩ := iD_ H
 obtain ⟨z6, H⟩ := iD_ H
 obtain ⟨A6, H⟩ := iN_ H
 have B6 := wa A6
 have C6 : decide (0 < a0.length) = true := wa (by omega)
 clear A6
 obtain ⟨D6, H⟩ := iN_ H
 have E6 := wa D6
 have F6 : decide (1 < a0.length) = true := wa (by omega)
 clear D6
 obtain ⟨G6, H⟩ := iN_ H
 have H6 := wa G6
 have I6 : decide (2 < a0.length) = true := wa (by omega)
 clear G6
 obtain ⟨C1, e7, H⟩ := bN_ H
 have H' := c_ H
 clear H
 obtain ⟨i7, F0, O4⟩ := s7 b0.o
 subst O4
 have g2 : 0 ≤ (4 : Int) := (by omega)
 have i2 : 4 < (a0.length : Int) := oD_
 obtain ⟨d0, P4, M0⟩ := tb (sX b0.o).2.2 4 g2 i2
 cases P4
 (try simp only [show (4 : Int).toNat = 4 from rfl, Nat.reduceMul, Nat.reduceEqDiff, Go.Addr.add, ↓reduceIte] at M0)
 have qi343 : (4 < a0.length) = True := ya (by omega)
 (try rw [show ((4 : Int)).toNat = 4 from rfl] at M0)
 replace g2 := ya g2
 replace i2 := ya i2
 try go_wp2
 obtain ⟨j0, b0, HB⟩ := b_ (tl j0.o) <| b_ (tl b0.o) <| c_ (b8 HB.o)
 have j2 : 0 ≤ (5 : Int) := (by omega)
 have m2 : 5 < (a0.length : Int) := oD_
 obtain ⟨D3, Q4, r0⟩ := tb (sX b0.o).2.2 5 j2 m2
 obtain rfl : d0 = D3 := (by injection Q4)
 (try simp only [show (5 : Int).toNat = 5 from rfl, Nat.reduceMul, Nat.reduceEqDiff, Go.Addr.add, ↓reduceIte] at r0)
 have qi344 : (5 < a0.length) = True := ya (by omega)
 (try rw [show ((5 : Int)).toNat = 5 from rfl] at r0)
 replace j2 := ya j2
 replace m2 := ya m2
 have n2 : 0 ≤ (6 : Int) := (by omega)
 have p2 : 6 < (a0.length : Int) := oD_
 obtain ⟨E3, R4, t0⟩ := tb (sX b0.o).2.2 6 n2 p2
 obtain rfl : d0 = E3 := (by injection R4)
 (try simp only [show (6 : Int).toNat = 6 from rfl, Nat.reduceMul, Nat.reduceEqDiff, Go.Addr.add, ↓reduceIte] at t0)
 have qi345 : (6 < a0.length) = True := ya (by omega)
 (try rw [show ((6 : Int)).toNat = 6 from rfl] at t0)
 replace n2 := ya n2
 replace p2 := ya p2
 refine d9 (n := 13) (S := fun w' => w'.cell? ⟨d0.block, d0.off + 5, none⟩ = some (.int .u32 (rd a0 5)) ∧ w'.cell? ⟨d0.block, d0.off + 6, none⟩ = some (.int .u32 (rd a0 6))) (ds := []) (bb_ 13 0) (by kernel_rfl) rfl rfl ⟨r0, t0⟩ (fun hHeld => ?_); refine cN af.tab11 af.bits11 (fun HT_ HW_ => ?_)
 generalize wr.drew = k7 at j0 b0 HB r0 t0 hHeld ⊢
 refine pT_ 0 63 13 1 ?_
 refine pT_ 1 64 13 3 ?_
 refine pT_ 2 65 13 7 ?_
 refine pT_ 5 68 13 39 ?_
 refine pT_ 6 69 13 103 ?_
 refine pT_ 7 70 13 231 ?_
 refine pT_ 8 71 13 487 ?_
 refine tS_ 3 66 (bb_ 13 495) (bx HT_.o HW_.o (by kernel_rfl)) hHeld ?_
 refine pT_ 4 67 13 511 ?_
 refine tS_ 9 72 (bb_ 13 1023) (bx HT_.o HW_.o (by kernel_rfl)) hHeld ?_
 refine pT_ 10 73 13 2047 ?_
 refine pT_ 11 74 13 4095 ?_
 refine pT_ 12 12 13 8191 ?_
 refine fc (du HT_.o (by kernel_rfl)) ?_
 try go_wp2
 obtain ⟨j0, b0, HB⟩ := b_ (tl j0.o) <| b_ (tl b0.o) <| c_ (b8 HB.o)
 have q2 : 0 ≤ (7 : Int) := (by omega)
 have r2 : 7 < (a0.length : Int) := oD_
 obtain ⟨F3, S4, u0⟩ := tb (sX b0.o).2.2 7 q2 r2
 obtain rfl : d0 = F3 := (by injection S4)
 (try simp only [show (7 : Int).toNat = 7 from rfl, Nat.reduceMul, Nat.reduceEqDiff, Go.Addr.add, ↓reduceIte] at u0)
 have qi346 : (7 < a0.length) = True := ya (by omega)
 (try rw [show ((7 : Int)).toNat = 7 from rfl] at u0)
 replace q2 := ya q2
 replace r2 := ya r2
 have t2 : 0 ≤ (e0 : Int) := oD_
 have u2 : e0 < (l1.length : Int) := oD_
 obtain ⟨G3, T4, J0⟩ := tb P6.o e0 t2 u2
 have p1 := J0
 cases T4
 replace J0 := hc_ J0
 replace t2 := ya t2
 replace u2 := ya u2
 obtain ⟨l7, X0, H3⟩ := s7 j0.o
 (first | subst H3 | (injection H3 with f1_ f2_ f3_; have f4_ := f1_.symm; have f5_ := f3_.symm; clear f1_ f2_ f3_; subst f4_; subst f5_))
 have v2 : 0 ≤ (e0 : Int) := oD_
 have y2 : e0 < (f0.length : Int) := oD_
 obtain ⟨H0, U4, q1⟩ := tb (sX j0.o).2.2 e0 v2 y2
 cases U4
 replace v2 := ya v2
 replace y2 := ya y2
 refine d9 (n := 19) (S := fun w' => w'.cell? ⟨d0.block, d0.off + 7, none⟩ = some (.int .u32 (rd a0 7)) ∧ w'.cell? (G3.add (e0).toNat) = some (.int .u32 (rd l1 e0)) ∧ w'.cell? (H0.add (e0).toNat) = some (.int .u32 (rd f0 e0))) (ds := []) (bb_ 19 0) (by kernel_rfl) rfl rfl ⟨u0, (hc_ p1), q1⟩ (fun hHeld => ?_); refine cN af.tab12 af.bits12 (fun HT_ HW_ => ?_)
 generalize k7.drew = z2 at j0 b0 HB u0 J0 q1 hHeld ⊢
 refine pT_ 0 75 19 1 ?_
 refine pT_ 1 76 19 3 ?_
 refine pT_ 3 78 19 11 ?_
 refine pT_ 6 81 19 75 ?_
 refine pT_ 8 83 19 331 ?_
 refine pT_ 9 84 19 843 ?_
 refine pT_ 10 85 19 1867 ?_
 refine pT_ 13 88 19 10059 ?_
 refine pT_ 14 89 19 26443 ?_
 refine pT_ 15 90 19 59211 ?_
 refine tS_ 2 77 (bb_ 19 59215) (bx HT_.o HW_.o (by kernel_rfl)) hHeld ?_
 refine tS_ 11 86 (bb_ 19 61263) (bx HT_.o HW_.o (by kernel_rfl)) hHeld ?_
 refine tS_ 16 91 (bb_ 19 126799) (bx HT_.o HW_.o (by kernel_rfl)) hHeld ?_
 refine fC (i := 4) (N := some 79) (bb_ 19 126815) rfl rfl (cD HT_.o (by kernel_rfl)) (by decide) (fun K hK => ?_)
 refine fv Tryz.func77 (by kernel_rfl) rfl #[.int .u32 (rd a0 4), .int .u32 64, .int .u32 2048, .int .u32 33554432, .bool false] (by rfl) rfl rfl aM_ ?_
 with_reducible refine (cV.calls (rd a0 4) 64 2048 33554432 false U0 _ c7.o).mono ?_
 rintro e w' ⟨rfl, ⟨nd, rfl⟩⟩
 refine ⟨_, rfl, ?_⟩
 refine hK _ _ ⟨hHeld.1, (hc_ p1), hHeld.2.2⟩ (fun hHeld => ?_)
 clear hK K
 refine dL (a' := ?_) ?_ ?_
 rotate_left
 ·show Act.put _ (some 79) _ = _
  simp only [Act.put, List.setIfInBounds_toArray, List.set_cons_zero, List.set_cons_succ, bv, cG]
  rfl
 refine pT_ 5 80 19 126847 ?_
 refine pT_ 7 82 19 126975 ?_
 refine pT_ 12 87 19 131071 ?_
 refine pT_ 17 92 19 262143 ?_
 refine pT_ 18 13 19 524287 ?_
 refine fc (du HT_.o (by kernel_rfl)) ?_
 try go_wp2
 (try (rw [da z2]; generalize hq_ : World.drewN z2 _ = z2; obtain ⟨j0, b0, HB⟩ := b_ (show Kd.R (Kd.int .u32) 39 z2 w.heap.size (fun k_ => some k_ ≠ (.slice (some d0) a0.length F0 : Value).ownBlock) (.slice (some H0) f0.length X0) f0 from by rw [← hq_]; exact (rR_ j0.o)) <| b_ (show Kd.R (Kd.int .u32) 39 z2 w.heap.size (fun k_ => some k_ ≠ (.slice (some H0) f0.length X0 : Value).ownBlock) (.slice (some d0) a0.length F0) a0 from by rw [← hq_]; exact (rR_ b0.o)) <| c_ (show Below w.heap.size w z2 from by rw [← hq_]; exact (hB_))))
 obtain ⟨j0, b0, HB⟩ := b_ (tl j0.o) <| b_ (tl b0.o) <| c_ (b8 HB.o)
 have A2 : 0 ≤ (0 : Int) := (by omega)
 have B2 : 0 < (a0.length : Int) := oD_
 obtain ⟨I3, V4, v0⟩ := tb (sX b0.o).2.2 0 A2 B2
 obtain rfl : d0 = I3 := (by injection V4)
 have qi350 : (0 < a0.length) = True := ya (by omega)
 (try rw [show ((0 : Int)).toNat = 0 from rfl] at v0)
 (try rw [Addr.add_zero'] at v0)
 replace A2 := ya A2
 replace B2 := ya B2
 have C2 : 0 ≤ (1 : Int) := (by omega)
 have D2 : 1 < (a0.length : Int) := oD_
 obtain ⟨J3, W4, x0⟩ := tb (sX b0.o).2.2 1 C2 D2
 obtain rfl : d0 = J3 := (by injection W4)
 (try simp only [show (1 : Int).toNat = 1 from rfl, Nat.reduceMul, Nat.reduceEqDiff, Go.Addr.add, ↓reduceIte] at x0)
 have qi351 : (1 < a0.length) = True := ya (by omega)
 (try rw [show ((1 : Int)).toNat = 1 from rfl] at x0)
 replace C2 := ya C2
 replace D2 := ya D2
 have E2 : 0 ≤ (0 : Int) := (by omega)
 have F2 : 0 < (a0.length : Int) := oD_
 obtain ⟨K3, X4, y0⟩ := tb (sX b0.o).2.2 0 E2 F2
 obtain rfl : d0 = K3 := (by injection X4)
 have qi352 : (0 < a0.length) = True := ya (by omega)
 (try rw [show ((0 : Int)).toNat = 0 from rfl] at y0)
 (try rw [Addr.add_zero'] at y0)
 replace E2 := ya E2
 replace F2 := ya F2
 have G2 : 0 ≤ (2 : Int) := (by omega)
 have H2 : 2 < (a0.length : Int) := oD_
 obtain ⟨L3, Y4, B0⟩ := tb (sX b0.o).2.2 2 G2 H2
 obtain rfl : d0 = L3 := (by injection Y4)
 (try simp only [show (2 : Int).toNat = 2 from rfl, Nat.reduceMul, Nat.reduceEqDiff, Go.Addr.add, ↓reduceIte] at B0)
 have qi353 : (2 < a0.length) = True := ya (by omega)
 (try rw [show ((2 : Int)).toNat = 2 from rfl] at B0)
 replace G2 := ya G2
 replace H2 := ya H2
 have I2 : 0 ≤ (1 : Int) := (by omega)
 have J2 : 1 < (a0.length : Int) := oD_
 obtain ⟨M3, Z4, C0⟩ := tb (sX b0.o).2.2 1 I2 J2
 obtain rfl : d0 = M3 := (by injection Z4)
 (try simp only [show (1 : Int).toNat = 1 from rfl, Nat.reduceMul, Nat.reduceEqDiff, Go.Addr.add, ↓reduceIte] at C0)
 have qi354 : (1 < a0.length) = True := ya (by omega)
 (try rw [show ((1 : Int)).toNat = 1 from rfl] at C0)
 replace I2 := ya I2
 replace J2 := ya J2
 have K2 : 0 ≤ (2 : Int) := (by omega)
 have L2 : 2 < (a0.length : Int) := oD_
 obtain ⟨N3, b5, D0⟩ := tb (sX b0.o).2.2 2 K2 L2
 obtain rfl : d0 = N3 := (by injection b5)
 (try simp only [show (2 : Int).toNat = 2 from rfl, Nat.reduceMul, Nat.reduceEqDiff, Go.Addr.add, ↓reduceIte] at D0)
 have qi355 : (2 < a0.length) = True := ya (by omega)
 (try rw [show ((2 : Int)).toNat = 2 from rfl] at D0)
 replace K2 := ya K2
 replace L2 := ya L2
 refine d9 (n := 24) (S := fun w' => w'.cell? d0 = some (.int .u32 (rd a0 0)) ∧ w'.cell? ⟨d0.block, d0.off + 1, none⟩ = some (.int .u32 (rd a0 1)) ∧ w'.cell? d0 = some (.int .u32 (rd a0 0)) ∧ w'.cell? ⟨d0.block, d0.off + 2, none⟩ = some (.int .u32 (rd a0 2)) ∧ w'.cell? ⟨d0.block, d0.off + 1, none⟩ = some (.int .u32 (rd a0 1)) ∧ w'.cell? ⟨d0.block, d0.off + 2, none⟩ = some (.int .u32 (rd a0 2))) (ds := []) (bb_ 24 0) (by kernel_rfl) rfl rfl ⟨v0, x0, y0, B0, C0, D0⟩ (fun hHeld => ?_); refine cN af.tab13 af.bits13 (fun HT_ HW_ => ?_)
 generalize z2.drew = J7 at j0 b0 HB v0 x0 y0 B0 C0 D0 hHeld ⊢
 refine pT_ 0 93 24 1 ?_
 refine pT_ 1 94 24 3 ?_
 refine pT_ 3 96 24 11 ?_
 refine pT_ 4 97 24 27 ?_
 refine pT_ 7 100 24 155 ?_
 refine pT_ 8 101 24 411 ?_
 refine pT_ 10 103 24 1435 ?_
 refine pT_ 11 104 24 3483 ?_
 refine pT_ 15 108 24 36251 ?_
 refine pT_ 16 109 24 101787 ?_
 refine pT_ 18 111 24 363931 ?_
 refine pT_ 19 112 24 888219 ?_
 refine tS_ 2 95 (bb_ 24 888223) (bx HT_.o HW_.o (by kernel_rfl)) hHeld ?_
 refine tS_ 5 98 (bb_ 24 888255) (bx HT_.o HW_.o (by kernel_rfl)) hHeld ?_
 refine pT_ 6 99 24 888319 ?_
 refine tS_ 9 102 (bb_ 24 888831) (bx HT_.o HW_.o (by kernel_rfl)) hHeld ?_
 refine tS_ 12 105 (bb_ 24 892927) (bx HT_.o HW_.o (by kernel_rfl)) hHeld ?_
 refine pT_ 13 106 24 901119 ?_
 refine pT_ 14 107 24 917503 ?_
 refine tS_ 17 110 (bb_ 24 1048575) (bx HT_.o HW_.o (by kernel_rfl)) hHeld ?_
 refine tS_ 20 113 (bb_ 24 2097151) (bx HT_.o HW_.o (by kernel_rfl)) hHeld ?_
 refine pT_ 21 114 24 4194303 ?_
 refine pT_ 22 115 24 8388607 ?_
 refine pT_ 23 14 24 16777215 ?_
 refine fc (du HT_.o (by kernel_rfl)) ?_
 have M2 : 0 ≤ (0 : Int) := (by omega)
 have N2 : 0 < (a0.length : Int) := oD_
 obtain ⟨O3, c5, N0⟩ := tb (sX b0.o).2.2 0 M2 N2
 obtain rfl : d0 = O3 := (by injection c5)
 have qi356 : (0 < a0.length) = True := ya (by omega)
 (try rw [show ((0 : Int)).toNat = 0 from rfl] at N0)
 (try rw [Addr.add_zero'] at N0)
 replace M2 := ya M2
 replace N2 := ya N2
 try go_wp2_with (first | (refine gq_ 77 (some 119) Tryz.func77 #[.int .u32 (rd a0 0), .int .u32 4, .int .u32 8192, .int .u32 4194304, .bool false] (cV.calls (rd a0 0) 4 8192 4194304 false C1 _ e7.o) ?_; rintro e w' ⟨rfl, ⟨nd, rfl⟩⟩; refine ⟨_, rfl, ?_⟩))
 go_loopg [16] k2 (fun kq w7 w' => ∃ (n0 : List Int) (q0 : Int), w7 = .int .i64 q0 ∧ aa (af.l2 kq l0 l1 f0 n0 e0 (((((((((rd a0 7) + U0) % 4294967296) + (Go.bits .xor .u32 (Go.bits .and .u32 (rd a0 4) (rd a0 5)) (Go.bits .and .u32 ((4294967295 - (rd a0 4)) % 4294967296) (rd a0 6)))) % 4294967296) + (rd l1 e0)) % 4294967296) + (rd f0 e0)) % 4294967296) ((C1 + (Go.bits .xor .u32 (Go.bits .xor .u32 (Go.bits .and .u32 (rd a0 0) (rd a0 1)) (Go.bits .and .u32 (rd a0 0) (rd a0 2))) (Go.bits .and .u32 (rd a0 1) (rd a0 2)))) % 4294967296) q0 = some r) ∧ aa (kq ≤ k2) ∧ aa (Kd.R (Kd.int .u32) 39 w' w.heap.size (fun k_ => some k_ ≠ ((.slice (some d0) a0.length F0) : Value).ownBlock) (.slice (some H0) f0.length X0) f0) ∧ aa (Kd.R (Kd.int .u32) 39 w' w.heap.size (fun k_ => some k_ ≠ ((.slice (some H0) f0.length X0) : Value).ownBlock) (.slice (some d0) a0.length F0) n0) ∧ aa (Below w.heap.size w w'))
 case atStart => exact ⟨(a0), (7), f0_, H', ⟨Aa _⟩, ⟨rR_ j0.o⟩, ⟨rR_ b0.o⟩, ⟨hB_⟩⟩
 clear H'
 obtain ⟨n0, q0, rfl, HA, b2, j0, b0, HB⟩ := hrel
 have p0 := (sX b0.o).1
 rw [p0] at b0
 (try simp only [p0])
 (try simp only [p0] at j0)
 rcases gk with _ | k3
 ·exact absurd HA.o (by simp [af.l2])
 have H := HA.o
 clear HA
 simp only [af.l2] at H
 by_cases X2 : q0 > 0
 ·rw [Da X2] at H
  have P3 := wa X2
  clear X2
  obtain ⟨V0, r1⟩ : ∃ j_ : Int, (wrap64 (q0 - 1)) = j_ := ⟨_, rfl⟩
  first | rw [r1] at H | simp only [r1] at H
  have e5 : (IntKind.i64.wrap (q0 - 1)) = V0 := (bv _).trans r1
  obtain ⟨J6, H⟩ := iD_ H
  obtain ⟨K6, H⟩ := iN_ H
  have Q3 := wa K6
  (try simp only [p0] at Q3)
  clear K6
  obtain ⟨L6, H⟩ := iD_ H
  obtain ⟨M6, H⟩ := iN_ H
  have R3 := wa M6
  (try simp only [p0] at R3)
  clear M6
  obtain ⟨S3, t1⟩ : ∃ y_ : List Int, y_ = (n0.set (q0 : Int).toNat (rd n0 (V0))) := ⟨_, rfl⟩
  first | replace H := yb_ t1 H | rw [← t1] at H
  have T3 := c_ t1
  clear t1
  have H' := c_ H
  clear H
  have O2 : 0 ≤ ((V0) : Int) := oD_
  have P2 : (V0) < (n0.length : Int) := oD_
  obtain ⟨U3, f5, K1⟩ := tb (sX b0.o).2.2 (V0) O2 P2
  obtain rfl : d0 = U3 := (by injection f5)
  replace O2 := ya O2
  replace P2 := ya P2
  have i5 : 0 ≤ (q0 : Int) := oD_
  have p5 : (q0 : Int) < ((n0.length : Int) : Int) := oD_
  obtain ⟨go53, y7, V3, W3, gl53, cl53, HG53⟩ := tt b0.o (by omega)
  (first | cases V3 | (injection V3 with ea_ en_ ec_; (first | subst ea_ | (injection ea_ with ea_; subst ea_)); subst ec_; clear en_))
  have q5 := c_ W3
  have GG53 := c_ HG53
  clear W3 gl53 HG53
  (first | simp only [b9] at M0 | skip)
  (first | simp only [b9] at r0 | skip)
  (first | simp only [b9] at t0 | skip)
  (first | simp only [b9] at u0 | skip)
  (first | simp only [b9] at v0 | skip)
  (first | simp only [b9] at x0 | skip)
  (first | simp only [b9] at y0 | skip)
  (first | simp only [b9] at B0 | skip)
  (first | simp only [b9] at C0 | skip)
  (first | simp only [b9] at D0 | skip)
  (first | simp only [b9] at N0 | skip)
  (first | simp only [b9] at K1 | skip)
  obtain ⟨u5, hf53_0⟩ := te 0 b0.o (q0 : Int) i5 p5
  replace i5 := ya i5
  replace p5 := ya p5
  have HP54 := tm b0.o (q0 : Int) (rd n0 (V0))
  go_wp2_with (first | ((refine cn (t := 39) (p := 133) rfl ?_); refine ce (t := 39) (p := 133) (v := ?vo_w55) (w1 := (wr.setCell ⟨go53, (q0 : Int).toNat, none⟩ (.int .u32 (rd n0 (V0))))) ?hg ?ho ?hn ?hr ?_; (case ho => rfl); (case hg => rfl); (case hn => rfl); (case hr => first | (go_simp; done) | (go_simp; rfl)); intro v5 hw; have hg : wr.grownBy v5 (some go53) := (by rw [hw]; exact HP54.2); have hp_ : Kd.R (Kd.int .u32) 39 v5 w.heap.size (fun k_ => some k_ ≠ (.slice (some H0) f0.length X0 : Value).ownBlock) (.slice (some ⟨go53, 0, none⟩) n0.length F0) S3 := (by rw [hw, T3.o]; exact HP54.1); clear HP54; obtain ⟨j0, b0, HB⟩ := b_ (tC (v := (.slice (some ⟨go53, 0, none⟩) n0.length F0)) (v1 := (.slice (some ⟨go53, 0, none⟩) n0.length F0)) (ok := (fun _ => True)) (by refine kR_ ?_; exact s9 j0.o (fun _ hk => ⟨trivial, hk⟩)) hg (.inl rfl)) <| b_ (hp_) <| c_ (by rw [hw]; exact cq (HB.o) q5.o : Below w.heap.size w v5); clear hg hw hp_))
  (try simp only [← p0])
  go_roundg k3
  case measure => have := L1.o; have := T2.o; have := b2.o; omega
  case rel => exact ⟨(S3), (V0), (by first | rfl | (simp; done) | (simp only [← r1] <;> (first | rfl | simp)) | (simp [*]; done)), H', ⟨by have := L1.o; have := T2.o; have := b2.o; omega⟩, ⟨by (try simp only [p0]); refine kR_ ?_; exact s9 j0.o (fun _ hk => hk.2)⟩, ⟨by (try simp only [p0]); refine kR_ ?_; exact b0.o⟩, ⟨hB_⟩⟩
 rw [Ea X2] at H
 have P3 := xa X2
 clear X2
 obtain ⟨N6, H⟩ := iN_ H
 have X3 := wa N6
 have Y3 : decide (4 < n0.length) = true := wa (by omega)
 (try simp only [p0] at X3)
 (try simp only [p0] at Y3)
 clear N6
 obtain ⟨Z3, y1⟩ : ∃ y_ : List Int, y_ = (n0.set (4 : Int).toNat (((rd n0 4) + (((((((((rd a0 7) + U0) % 4294967296) + (Go.bits .xor .u32 (Go.bits .and .u32 (rd a0 4) (rd a0 5)) (Go.bits .and .u32 ((4294967295 - (rd a0 4)) % 4294967296) (rd a0 6)))) % 4294967296) + (rd l1 e0)) % 4294967296) + (rd f0 e0)) % 4294967296)) % 4294967296)) := ⟨_, rfl⟩
 first | replace H := yb_ y1 H | rw [← y1] at H
 have b4 := c_ y1
 clear y1
 obtain ⟨O6, H⟩ := iN_ H
 have c4 := wa O6
 have e4 : decide (0 < n0.length) = true := wa (by omega)
 (try simp only [p0] at c4)
 (try simp only [p0] at e4)
 clear O6
 obtain ⟨f4, z1⟩ : ∃ y_ : List Int, y_ = (Z3.set (0 : Int).toNat (((((((((((rd a0 7) + U0) % 4294967296) + (Go.bits .xor .u32 (Go.bits .and .u32 (rd a0 4) (rd a0 5)) (Go.bits .and .u32 ((4294967295 - (rd a0 4)) % 4294967296) (rd a0 6)))) % 4294967296) + (rd l1 e0)) % 4294967296) + (rd f0 e0)) % 4294967296) + ((C1 + (Go.bits .xor .u32 (Go.bits .xor .u32 (Go.bits .and .u32 (rd a0 0) (rd a0 1)) (Go.bits .and .u32 (rd a0 0) (rd a0 2))) (Go.bits .and .u32 (rd a0 1) (rd a0 2)))) % 4294967296)) % 4294967296)) := ⟨_, rfl⟩
 first | replace H := yb_ z1 H | rw [← z1] at H
 have g4 := c_ z1
 clear z1
 have H' := c_ H
 clear H
 have Q2 : 0 ≤ (4 : Int) := (by omega)
 have R2 : 4 < (n0.length : Int) := oD_
 obtain ⟨i4, y5, O0⟩ := tb (sX b0.o).2.2 4 Q2 R2
 obtain rfl : d0 = i4 := (by injection y5)
 (try simp only [show (4 : Int).toNat = 4 from rfl, Nat.reduceMul, Nat.reduceEqDiff, Go.Addr.add, ↓reduceIte] at O0)
 have qi360 : (4 < n0.length) = True := ya (by omega)
 (try rw [show ((4 : Int)).toNat = 4 from rfl] at O0)
 replace Q2 := ya Q2
 replace R2 := ya R2
 have z5 : 0 ≤ (4 : Int) := (by omega)
 have A5 : (4 : Int) < ((n0.length : Int) : Int) := oD_
 have qi57 : (4 < n0.length) = True := ya (by omega)
 obtain ⟨go57, z7, l4, n4, gl57, cl57, HG57⟩ := tt b0.o (by omega)
 (first | cases l4 | (injection l4 with ea_ en_ ec_; (first | subst ea_ | (injection ea_ with ea_; subst ea_)); subst ec_; clear en_))
 have q4 := c_ n4
 have GG57 := c_ HG57
 clear n4 gl57 HG57
 (first | simp only [b9] at O0 | skip)
 obtain ⟨D1, hf57_0⟩ := te 0 b0.o (4 : Int) z5 A5
 (try rw [show ((4 : Int)).toNat = 4 from rfl] at D1)
 (try simp only [Nat.reduceMul, Nat.zero_mul, Nat.zero_add, Nat.reduceAdd] at D1)
 (try rw [show ((4 : Int)).toNat = 4 from rfl] at hf57_0)
 (try simp only [Nat.reduceMul, Nat.zero_mul, Nat.zero_add, Nat.reduceAdd] at hf57_0)
 replace z5 := ya z5
 replace A5 := ya A5
 have HP60 := tm b0.o (4 : Int) (((rd n0 4) + (((((((((rd a0 7) + U0) % 4294967296) + (Go.bits .xor .u32 (Go.bits .and .u32 (rd a0 4) (rd a0 5)) (Go.bits .and .u32 ((4294967295 - (rd a0 4)) % 4294967296) (rd a0 6)))) % 4294967296) + (rd l1 e0)) % 4294967296) + (rd f0 e0)) % 4294967296)) % 4294967296)
 go_wp2_with (first | ((refine cn (t := 39) (p := 140) rfl ?_); refine ce (t := 39) (p := 140) (v := ?vo_w61) (w1 := (wr.setCell ⟨go57, (4 : Int).toNat, none⟩ (.int .u32 (((rd n0 4) + (((((((((rd a0 7) + U0) % 4294967296) + (Go.bits .xor .u32 (Go.bits .and .u32 (rd a0 4) (rd a0 5)) (Go.bits .and .u32 ((4294967295 - (rd a0 4)) % 4294967296) (rd a0 6)))) % 4294967296) + (rd l1 e0)) % 4294967296) + (rd f0 e0)) % 4294967296)) % 4294967296)))) ?hg ?ho ?hn ?hr ?_; (case ho => rfl); (case hg => rfl); (case hn => rfl); (case hr => first | (go_simp; done) | (go_simp; rfl)); intro t4 hw; have hg : wr.grownBy t4 (some go57) := (by rw [hw]; exact HP60.2); have hp_ : Kd.R (Kd.int .u32) 39 t4 w.heap.size (fun k_ => some k_ ≠ (.slice (some H0) f0.length X0 : Value).ownBlock) (.slice (some ⟨go57, 0, none⟩) n0.length F0) Z3 := (by rw [hw, b4.o]; exact HP60.1); clear HP60; obtain ⟨j0, b0, HB⟩ := b_ (tC (v := (.slice (some ⟨go57, 0, none⟩) n0.length F0)) (v1 := (.slice (some ⟨go57, 0, none⟩) n0.length F0)) (ok := (fun _ => True)) (by refine kR_ ?_; exact s9 j0.o (fun _ hk => ⟨trivial, hk⟩)) hg (.inl rfl)) <| b_ (hp_) <| c_ (by rw [hw]; exact cq (HB.o) q4.o : Below w.heap.size w t4); clear hg hw hp_; have B5 : 0 ≤ (0 : Int) := (by omega); have C5 : (0 : Int) < ((n0.length : Int) : Int) := oD_; have qi59 : (0 < n0.length) = True := ya (by omega); obtain ⟨E1, hf59_0⟩ := te 0 b0.o (0 : Int) B5 C5; (try rw [show ((0 : Int)).toNat = 0 from rfl] at E1); (try simp only [Nat.reduceMul, Nat.zero_mul, Nat.zero_add, Nat.reduceAdd] at E1); (try rw [show ((0 : Int)).toNat = 0 from rfl] at hf59_0); (try simp only [Nat.reduceMul, Nat.zero_mul, Nat.zero_add, Nat.reduceAdd] at hf59_0); replace B5 := ya B5; replace C5 := ya C5; obtain ⟨Q1, hz62_⟩ := te 0 b0.o (0 : Int) (by omega) oD_; (try simp only [Int.reduceToNat, Int.toNat_zero, Int.toNat_ofNat, Nat.reduceMul, Nat.zero_mul, Nat.zero_add] at Q1 hz62_); (try rw [show ((0 : Int)).toNat = 0 from rfl] at Q1); (try rw [show ((0 : Int)).toNat = 0 from rfl] at hz62_); have HP62 := tm b0.o (0 : Int) (((((((((((rd a0 7) + U0) % 4294967296) + (Go.bits .xor .u32 (Go.bits .and .u32 (rd a0 4) (rd a0 5)) (Go.bits .and .u32 ((4294967295 - (rd a0 4)) % 4294967296) (rd a0 6)))) % 4294967296) + (rd l1 e0)) % 4294967296) + (rd f0 e0)) % 4294967296) + ((C1 + (Go.bits .xor .u32 (Go.bits .xor .u32 (Go.bits .and .u32 (rd a0 0) (rd a0 1)) (Go.bits .and .u32 (rd a0 0) (rd a0 2))) (Go.bits .and .u32 (rd a0 1) (rd a0 2)))) % 4294967296)) % 4294967296)) | ((refine cn (t := 39) (p := 145) rfl ?_); refine ce (t := 39) (p := 145) (v := ?vo_w63) (w1 := (t4.setCell ⟨go57, (0 : Int).toNat, none⟩ (.int .u32 (((((((((((rd a0 7) + U0) % 4294967296) + (Go.bits .xor .u32 (Go.bits .and .u32 (rd a0 4) (rd a0 5)) (Go.bits .and .u32 ((4294967295 - (rd a0 4)) % 4294967296) (rd a0 6)))) % 4294967296) + (rd l1 e0)) % 4294967296) + (rd f0 e0)) % 4294967296) + ((C1 + (Go.bits .xor .u32 (Go.bits .xor .u32 (Go.bits .and .u32 (rd a0 0) (rd a0 1)) (Go.bits .and .u32 (rd a0 0) (rd a0 2))) (Go.bits .and .u32 (rd a0 1) (rd a0 2)))) % 4294967296)) % 4294967296)))) ?hg ?ho ?hn ?hr ?_; (case ho => rfl); (case hg => rfl); (case hn => rfl); (case hr => first | (go_simp; done) | (go_simp; rfl)); intro D5 hw; have hg : t4.grownBy D5 (some go57) := (by rw [hw]; exact HP62.2); have hp_ : Kd.R (Kd.int .u32) 39 D5 w.heap.size (fun k_ => some k_ ≠ (.slice (some H0) f0.length X0 : Value).ownBlock) (.slice (some ⟨go57, 0, none⟩) n0.length F0) f4 := (by rw [hw, g4.o]; exact HP62.1); clear HP62; obtain ⟨j0, b0, HB⟩ := b_ (tC (v := (.slice (some ⟨go57, 0, none⟩) n0.length F0)) (v1 := (.slice (some ⟨go57, 0, none⟩) n0.length F0)) (ok := (fun _ => True)) (rR_ j0.o) hg (.inl rfl)) <| b_ (hp_) <| c_ (by rw [hw]; exact cq (HB.o) q4.o : Below w.heap.size w D5); clear hg hw hp_))
 (try simp only [← p0])
 go_roundg k3
 case measure => have := L1.o; have := T2.o; have := b2.o; omega
 case rel => exact ⟨(f4), (wrap64 (e0 + 1)), f0_, H', ⟨by have := L1.o; have := T2.o; have := b2.o; omega⟩, ⟨by (try simp only [p0]); refine kR_ ?_; exact s9 j0.o (fun _ hk => hk.2)⟩, ⟨by (try simp only [p0]); refine kR_ ?_; exact b0.o⟩, ⟨hB_⟩⟩
def bq.l0 : Nat → List Int → List Int → Int → Option (ByteArray)
 | 0, _, _, _ => none
 | k + 1, x0, x3, x4 => if x4 < (x0.length : Int) then (if 0 ≤ x4 then ((some (([((Int.tdiv (rd x0 x4) 16777216) % 4294967296) % 256, ((Int.tdiv (rd x0 x4) 65536) % 4294967296) % 256, ((Int.tdiv (rd x0 x4) 256) % 4294967296) % 256, (Int.tmod (rd x0 x4) 256) % 256] : List Int) : List Int)).bind fun y375 => (if x3.length + y375.length < 140737488355328 then (bq.l0 k x0 (x3 ++ y375) (wrap64 (x4 + 1))) else (none))) else (none)) else (some (strOfNums x3))
def bq.f (k : Nat) (l0 : List Int) : Option (ByteArray) := bq.l0 k l0 (([] : List Int)) 0
theorem bq.mono_l : ∀ k, (∀ y0 y1 y2, LeO (bq.l0 k y0 y1 y2) (bq.l0 (k + 1) y0 y1 y2))
 | 0 => fun _ _ _ r h => by simp [bq.l0] at h
 | k + 1 => by
  have ih0 := bq.mono_l k
  intros; unfold bq.l0; exact o1_ ih0
theorem bq.mono : ∀ a0 k, LeO (bq.f k a0) (bq.f (k + 1) a0) := by
 intro a0 k
 have ih0 := bq.mono_l k
 unfold bq.f
 exact o1_ ih0
theorem bq.calls (k : Nat) (A0 : Option Addr) (c0 : Nat) (l0 : List Int) (r : ByteArray) (w : World) (hr0 : Kd.C (Kd.int .u32) w A0 l0.length l0) (hc0 : l0.length ≤ c0) (h : bq.f k l0 = some r) :
  Calls Tryz.prog 43 #[.slice A0 l0.length c0] w fun e w' => e = .returned (.string r) ∧ Below w.heap.size w w' := by
 have O0 := c_ hr0
 have T0 := c_ hc0
 clear hr0 hc0
 have HB := c_ (Ba w.heap.size w)
 delta bq.f at h
 have H := h
 clear h
 obtain ⟨D0, d0⟩ : ∃ y_ : List Int, y_ = (([] : List Int)) := ⟨_, rfl⟩
 first | replace H := yb_ d0 H | rw [← d0] at H
 have p0 := c_ d0
 clear d0
 have H' := c_ H
 clear H
 go_enter Tryz.func43, Tryz.ntmps43
 go_wp2_with (first | ((refine aI (N := 6) rfl ?_); refine tn (Kd.int .u8) _ 5 ?hg (N := 6) ?hd (xs := ([] : List Int)) (inner := []) (ok := fun _ => True) (okp := fun _ => True) ?hr ?hp (fun _ hk => hk) trivial (Ba _ _) (Aa _) (by simp) ?_; (case hd => rfl); (case hg => rfl); (case hr => first | (go_simp; done) | (go_simp; rfl)); (case hp => exact (bA.none _ _)); intro P0 w2 x0 hb hg_ hnew_; clear hg_ hnew_; (first | rw [← p0.o] at x0 | (simp only [Int.reduceToNat] at x0; rw [← p0.o] at x0)); obtain ⟨y0, HB⟩ := b_ (sZ x0 (ac (hB_))) <| c_ (ab (hB_) hb); clear hb x0))
 go_loopg [3, 4] k (fun kq v3 v4 w' => ∃ (k0 : List Int) (a0 : Int), v4 = .int .i64 a0 ∧ aa (bq.l0 kq l0 k0 a0 = some r) ∧ aa (kq ≤ k) ∧ aa (Kd.R (Kd.int .u8) 5 w' w.heap.size (fun _ => True) v3 k0) ∧ aa (Below w.heap.size w w'))
 case atStart => exact ⟨(D0), (0), f0_, H', ⟨Aa _⟩, ⟨rR_ y0.o⟩, ⟨hB_⟩⟩
 clear H'
 obtain ⟨k0, a0, rfl, HA, L0, n0, HB⟩ := hrel
 rcases gk with _ | k1
 ·exact absurd HA.o (by simp [bq.l0])
 have H := HA.o
 clear HA
 simp only [bq.l0] at H
 by_cases c4 : a0 < (l0.length : Int)
 rotate_left
 ·rw [Ea c4] at H
  have E0 := xa c4
  clear c4
  obtain rfl := za H
  have M0 := dW (P := Tryz.prog) Tryz.underlying59 Tryz.underlying5 Tryz.underlying9 (tr n0.o)
  go_wp2
  go_ret
  exact ⟨f1_, hB_⟩
 rw [Da c4] at H
 have E0 := wa c4
 clear c4
 obtain ⟨Q0, H⟩ := iD_ H
 obtain ⟨r0, e0⟩ : ∃ y_ : List Int, y_ = (([((Int.tdiv (rd l0 a0) 16777216) % 4294967296) % 256, ((Int.tdiv (rd l0 a0) 65536) % 4294967296) % 256, ((Int.tdiv (rd l0 a0) 256) % 4294967296) % 256, (Int.tmod (rd l0 a0) 256) % 256] : List Int)) := ⟨_, rfl⟩
 first | replace H := yb_ e0 H | rw [← e0] at H
 have q0 := c_ e0
 clear e0
 obtain ⟨c6, H⟩ := iN_ H
 have F0 := c_ c6
 clear c6
 obtain ⟨G0, f0⟩ : ∃ y_ : List Int, y_ = (k0 ++ r0) := ⟨_, rfl⟩
 first | replace H := yb_ f0 H | rw [← f0] at H
 have B0 := c_ f0
 clear f0
 have H' := c_ H
 clear H
 have t0 : 0 ≤ (a0 : Int) := oD_
 have u0 : a0 < (l0.length : Int) := oD_
 obtain ⟨N0, H0, j0⟩ := tb O0.o a0 t0 u0
 cases H0
 replace j0 := hc_ j0
 replace t0 := ya t0
 replace u0 := ya u0
 go_wp2_with (first | ((refine aI (N := 32) rfl ?_); refine tn (Kd.int .u8) _ 5 ?hg (N := 32) ?hd (xs := ([((Int.tdiv (rd l0 a0) 16777216) % 4294967296) % 256, ((Int.tdiv (rd l0 a0) 65536) % 4294967296) % 256, ((Int.tdiv (rd l0 a0) 256) % 4294967296) % 256, (Int.tmod (rd l0 a0) 256) % 256] : List Int)) (inner := [.int .u8 (((Int.tdiv (rd l0 a0) 16777216) % 4294967296) % 256), .int .u8 (((Int.tdiv (rd l0 a0) 65536) % 4294967296) % 256), .int .u8 (((Int.tdiv (rd l0 a0) 256) % 4294967296) % 256), .int .u8 ((Int.tmod (rd l0 a0) 256) % 256)]) (ok := fun _ => True) (okp := fun _ => True) ?hr ?hp (fun _ hk => hk) trivial (Ba _ _) (Aa _) (by simp) ?_; (case hd => rfl); (case hg => rfl); (case hr => first | (go_simp; done) | (go_simp; rfl)); (case hp => exact (bA.one (show Kd.M (Kd.int .u8) _ _ _ (((Int.tdiv (rd l0 a0) 16777216) % 4294967296) % 256) [.int .u8 (((Int.tdiv (rd l0 a0) 16777216) % 4294967296) % 256)] from rfl) (bA.one (show Kd.M (Kd.int .u8) _ _ _ (((Int.tdiv (rd l0 a0) 65536) % 4294967296) % 256) [.int .u8 (((Int.tdiv (rd l0 a0) 65536) % 4294967296) % 256)] from rfl) (bA.one (show Kd.M (Kd.int .u8) _ _ _ (((Int.tdiv (rd l0 a0) 256) % 4294967296) % 256) [.int .u8 (((Int.tdiv (rd l0 a0) 256) % 4294967296) % 256)] from rfl) (bA.one (show Kd.M (Kd.int .u8) _ _ _ ((Int.tmod (rd l0 a0) 256) % 256) [.int .u8 ((Int.tmod (rd l0 a0) 256) % 256)] from rfl) (bA.none _ _)))))); intro R0 w7 v0 hb hg_ hnew_; clear hg_ hnew_; (first | rw [← q0.o] at v0 | (simp only [Int.reduceToNat] at v0; rw [← q0.o] at v0)); obtain ⟨n0, b0, HB⟩ := b_ (s5 (rR_ n0.o) (sY v0) hb) <| b_ (sZ (ta v0 (ti (rR_ n0.o))) (ac (hB_))) <| c_ (ab (hB_) hb); clear hb v0; obtain ⟨I0, J0, K0⟩ := s7 b0.o; subst K0) | ((refine aU (b := .append) (xs := #[.tmp 17, .tmp 32]) rfl ?_); at_builtin; refine tA (Kd.int .u8) (w0 := w) w.heap.size rfl (.tmp 17) (.tmp 32) 59 5 (.int .u8 0) 1 rfl Tryz.underlying59 iX rfl (by decide) (by omega) u3 k0 r0 _ _ _ (fun k_ => some k_ ≠ (.slice I0 r0.length J0 : Value).ownBlock) (fun _ => False) rfl rfl ?aO ?aR (fun _ _ h => h) (fun _ h => h.elim) ?aF ?aB ?aS ?aL ?_; (case aR => exact cR_ (sX b0.o).2.2); (case aB => exact (hB_)); (case aF => exact (fun k_ hk => Kd.fresh' (ti (rR_ b0.o)) k_ hk)); (case aO => exact (by refine kR_ ?_; exact s9 n0.o (fun _ hk => hk.2))); (case aS => exact (ac (hB_))); (case aL => have := F0.o; omega); intro S0 w9 ho hb hg hat; rw [← B0.o] at ho; obtain ⟨b0, HB, C0⟩ := b_ (tC (ok := (fun _ => True)) (rR_ b0.o) hg hat) <| b_ (hb) <| c_ (ho); clear ho hb hg hat))
 go_roundg k1
 case measure => have := L0.o; omega
 case rel => exact ⟨(G0), (wrap64 (a0 + 1)), f0_, H', ⟨by have := L0.o; omega⟩, ⟨by refine kR_ ?_; exact s9 C0.o (fun _ hk => trivial)⟩, ⟨hB_⟩⟩
-- GIVEN: function 15 (de)
mutual
def aG.j0 : Nat → ByteArray → Bool → ByteArray → ByteArray → Int → Option (ByteArray × ByteArray × Int)
 | 0, _, _, _, _, _ => none
 | k + 1, x1, x19, x382000, x382001, x382002 => if x19 = true then (some (x382000, x382001, x382002)) else ((bm.f k x382000).bind fun t384 => ((eK.f).bind fun t387 => (if x382001.size + x1.size ≤ 9223372036854775807 then (aG.l0 k x1 t384 t387 (x382001 ++ x1) 0 x382000 x382001 x382002) else (none))))
def aG.l0 : Nat → ByteArray → List Int → List Int → ByteArray → Int → ByteArray → ByteArray → Int → Option (ByteArray × ByteArray × Int)
 | 0, _, _, _, _, _, _, _, _ => none
 | k + 1, x1, x5, x6, x7, x8, x382000, x382001, x382002 => if (wrap64 (x8 + 64)) ≤ (x7.size : Int) then (if 0 ≤ x8 then (if x8 ≤ (wrap64 (x8 + 64)) then ((af.f k x5 x6 (x7.extract (x8 : Int).toNat ((wrap64 (x8 + 64)) : Int).toNat)).bind fun t390 => (aG.l0 k x1 t390 x6 x7 (wrap64 (x8 + 64)) x382000 x382001 x382002)) else (none)) else (none)) else ((bq.f k x5).bind fun t393 => (if 0 ≤ x8 then (if x8 ≤ (x7.size : Int) then (some (t393, x7.extract (x8 : Int).toNat x7.size, wrap64 (x382002 + (x1.size : Int)))) else (none)) else (none)))
end
def aG.f (k : Nat) (a0_0 : ByteArray) (a0_1 : ByteArray) (a0_2 : Int) (a1 : ByteArray) : Option (ByteArray × ByteArray × Int) := (cQ.f a0_0 a0_1 a0_2).bind fun t383 => (if t383 = true then (aG.j0 k a1 (decide ((wrap64 (a0_2 + (a1.size : Int))) > 1000000000)) a0_0 a0_1 a0_2) else (aG.j0 k a1 true a0_0 a0_1 a0_2))
theorem aG.mono_l : ∀ k, (∀ y0 y1 y2 y3 y4, LeO (aG.j0 k y0 y1 y2 y3 y4) (aG.j0 (k + 1) y0 y1 y2 y3 y4)) ∧ (∀ y0 y1 y2 y3 y4 y5 y6 y7, LeO (aG.l0 k y0 y1 y2 y3 y4 y5 y6 y7) (aG.l0 (k + 1) y0 y1 y2 y3 y4 y5 y6 y7))
 | 0 => ⟨fun _ _ _ _ _ r h => by simp [aG.j0] at h, fun _ _ _ _ _ _ _ _ r h => by simp [aG.l0] at h⟩
 | k + 1 => by
  obtain ⟨ih0, ih1⟩ := aG.mono_l k
  refine ⟨?_, ?_⟩ <;> (intros; (first | unfold aG.j0 | unfold aG.l0); exact o5_ ih0 ih1 bq.mono af.mono bm.mono)
theorem aG.mono : ∀ a0 a1 a2 a3 k, LeO (aG.f k a0 a1 a2 a3) (aG.f (k + 1) a0 a1 a2 a3) := by
 intro a0 a1 a2 a3 k
 obtain ⟨ih0, ih1⟩ := aG.mono_l k
 unfold aG.f
 exact o5_ ih0 ih1 bq.mono af.mono bm.mono
def aG.T10 : Bool × List (List Nat × List Nat) := (true, [([], []), ([0], [0]), ([], []), ([], []), ([2, 3], [2, 3]), ([], []), ([5], [5]), ([], []), ([7], [7]), ([6, 8], [6, 8]), ([1, 4, 9], [1, 4, 9]), ([10, 1, 0, 1, 2, 3, 4, 5, 6, 7, 8, 9, 10], [10])])
def aG.B10 : List Nat := [0, 1, 0, 0, 12, 0, 32, 0, 128, 480, 1023, 2047]
theorem aG.tab10 : d8 .any (fb Tryz.f16 10) = aG.T10 := by kernel_rfl
theorem aG.bits10 : db aG.T10.2 aG.B10 = true := by kernel_rfl
theorem aG.calls (k : Nat) (k0 : ByteArray) (n0 : ByteArray) (p0 : Int) (a1 : ByteArray) (r1 : ByteArray) (r2 : ByteArray) (r3 : Int) (w : World) (h : aG.f k k0 n0 p0 a1 = some (r1, r2, r3)) :
  Calls Tryz.prog 16 #[.agg #[.string k0, .string n0, .int .i64 p0], .string a1] w fun e w' => e = .returned (.agg #[.string r1, .string r2, .int .i64 r3]) ∧ Below w.heap.size w w' := by
 have hu35 := Tryz.underlying35
 have HB := c_ (Ba w.heap.size w)
 delta aG.f at h
 have H := h
 clear h
 have P1 := c_ H
 clear H
 go_enter Tryz.func16, Tryz.ntmps16
 go_upto_region 1 with (first | ((refine aI (N := 2) rfl ?_); (try (refine bn (by rfl) ?_; dsimp only)); refine cz ?hg (N := 2) ?hd (cs := #[.string k0, .string n0, .int .i64 p0]) (t := 35) ?hr ?_; (case hd => rfl); (case hg => rfl); (case hr => first | (go_simp; done) | (go_simp; rfl)); intro d0 hg w4 hbox hb; obtain ⟨HB, a0, t2, q0⟩ := b_ (ab (hB_) hb) <| b_ (hbox) <| b_ (by rw [hg]; exact (ac (hB_)) : w.heap.size ≤ d0) <| c_ (by rw [hg]; exact (ac (hB_)) : w.heap.size ≤ d0); clear hb hbox hg) | ((refine aI (N := 4) rfl ?_); (try (refine bn (by rfl) ?_; dsimp only)); refine cz ?hg (N := 4) ?hd (cs := #[.string (⟨#[]⟩ : ByteArray), .string (⟨#[]⟩ : ByteArray), .int .i64 0]) (t := 35) ?hr ?_; (case hd => rfl); (case hg => rfl); (case hr => first | (go_simp; done) | (go_simp; rfl)); intro f0 hg w5 hbox hb; obtain ⟨a0, HB, e0, u2, t0, b0, r0⟩ := b_ (bM (g := d0) (o := .cells #[.string k0, .string n0, .int .i64 p0] 35 (0, 0)) (rK_ a0.o) hb) <| b_ (ab (hS_ q0.o) hb) <| b_ (hbox) <| b_ (by rw [hg]; exact (ac (hS_ q0.o)) : w.heap.size ≤ f0) <| b_ (by rw [hg]; exact (ac (hS_ q0.o)) : w.heap.size ≤ f0) <| b_ (by rw [hg]; exact Nat.ne_of_lt (eM (g := d0) (o := .cells #[.string k0, .string n0, .int .i64 p0] 35 (0, 0)) (rK_ a0.o)) : d0 ≠ f0) <| c_ (by rw [hg]; exact Nat.ne_of_gt (eM (g := d0) (o := .cells #[.string k0, .string n0, .int .i64 p0] 35 (0, 0)) (rK_ a0.o)) : f0 ≠ d0); clear hb hbox hg))
 (try simp only [Act.put, List.setIfInBounds_toArray, List.set_cons_zero, List.set_cons_succ])
 go_cut [19] (fun Q2 wc => ∃ (kq : Nat) (B0 : Bool), Q2 = .bool B0 ∧ aa (aG.j0 kq a1 B0 k0 n0 p0 = some (r1, r2, r3)) ∧ aa (kq ≤ k) ∧ aa (wc.heap[d0]? = some (.cells #[.string k0, .string n0, .int .i64 p0] 35 (0, 0))) ∧ aa (wc.heap[f0]? = some (.cells #[.string (⟨#[]⟩ : ByteArray), .string (⟨#[]⟩ : ByteArray), .int .i64 0] 35 (0, 0))) ∧ aa (Below w.heap.size w wc))
 case first =>
  have H := P1.o
  clear P1
  obtain ⟨Q1, A6, H⟩ := bN_ H
  by_cases c7 : Q1 = true
  ·subst c7
   replace H := iT_ H
   have H' := c_ H
   clear H
   have hnb8 := b0.o
   have hnc8 := r0.o
   have R1 : w5.cell? ⟨d0, 0, none⟩ = some (.string k0) := (ar a0.o 0).trans rfl
   have S1 : w5.cell? ⟨d0, 1, none⟩ = some (.string n0) := (ar a0.o 1).trans rfl
   have T1 : w5.cell? ⟨d0, 2, none⟩ = some (.int .i64 p0) := (ar a0.o 2).trans rfl
   have U1 := aj a0.o 0
   have V1 := aj a0.o 1
   have X1 := aj a0.o 2
   go_wp2_with (first | (refine gq_ 39 (some 10) Tryz.func39 #[.agg #[.string k0, .string n0, .int .i64 p0]] (cQ.calls k0 n0 p0 true _ A6.o) ?_; rintro e Y1 ⟨rfl, hb⟩; refine ⟨_, rfl, ?_⟩; obtain ⟨a0, e0, HB⟩ := b_ (bM (g := d0) (o := .cells #[.string k0, .string n0, .int .i64 p0] 35 (0, 0)) (rK_ a0.o) hb) <| b_ (bM (g := f0) (o := .cells #[.string (⟨#[]⟩ : ByteArray), .string (⟨#[]⟩ : ByteArray), .int .i64 0] 35 (0, 0)) (rK_ e0.o) hb) <| c_ (ab ((u0_ q0.o t0.o)) hb); have O0 : Y1.cell? ⟨d0, 0, none⟩ = some (.string k0) := (ar a0.o 0).trans rfl; have P0 : Y1.cell? ⟨d0, 1, none⟩ = some (.string n0) := (ar a0.o 1).trans rfl; have Q0 : Y1.cell? ⟨d0, 2, none⟩ = some (.int .i64 p0) := (ar a0.o 2).trans rfl; have R0 := aj a0.o 0; have S0 := aj a0.o 1; have T0 := aj a0.o 2))
   go_meet
   case rel => exact ⟨_, (decide ((wrap64 (p0 + (a1.size : Int))) > 1000000000)), f0_, H', ⟨by first | omega | exact Aa _⟩, ⟨by refine kK_ ?_; exact a0.o⟩, ⟨by refine kK_ ?_; exact e0.o⟩, ⟨(u0_ q0.o t0.o)⟩⟩
  ·replace c7 := Ca c7
   subst c7
   replace H := iF_ H
   have H' := c_ H
   clear H
   have hnb12 := b0.o
   have hnc12 := r0.o
   have U0 : w5.cell? ⟨d0, 0, none⟩ = some (.string k0) := (ar a0.o 0).trans rfl
   have V0 : w5.cell? ⟨d0, 1, none⟩ = some (.string n0) := (ar a0.o 1).trans rfl
   have W0 : w5.cell? ⟨d0, 2, none⟩ = some (.int .i64 p0) := (ar a0.o 2).trans rfl
   have X0 := aj a0.o 0
   have Y0 := aj a0.o 1
   have Z0 := aj a0.o 2
   go_wp2_with (first | (refine gq_ 39 (some 10) Tryz.func39 #[.agg #[.string k0, .string n0, .int .i64 p0]] (cQ.calls k0 n0 p0 false _ A6.o) ?_; rintro e e3 ⟨rfl, hb⟩; refine ⟨_, rfl, ?_⟩; obtain ⟨a0, e0, HB⟩ := b_ (bM (g := d0) (o := .cells #[.string k0, .string n0, .int .i64 p0] 35 (0, 0)) (rK_ a0.o) hb) <| b_ (bM (g := f0) (o := .cells #[.string (⟨#[]⟩ : ByteArray), .string (⟨#[]⟩ : ByteArray), .int .i64 0] 35 (0, 0)) (rK_ e0.o) hb) <| c_ (ab ((u0_ q0.o t0.o)) hb); (try clear hb)))
   go_meet
   case rel => exact ⟨_, (true), f0_, H', ⟨by first | omega | exact Aa _⟩, ⟨by refine kK_ ?_; exact a0.o⟩, ⟨by refine kK_ ?_; exact e0.o⟩, ⟨(u0_ q0.o t0.o)⟩⟩
 clear P1
 obtain ⟨kq, B0, rfl, HA, v2, a0, e0, HB⟩ := hcut
 rcases kq with _ | Z1
 ·exact absurd HA.o (by simp [aG.j0])
 have H := HA.o
 clear HA
 simp only [aG.j0] at H
 by_cases b1 : B0 = true
 ·subst b1
  replace H := iT_ H
  simp only [Option.some.injEq, Prod.mk.injEq] at H
  obtain ⟨rfl, rfl, rfl⟩ := H
  have hnb16 := b0.o
  have hnc16 := r0.o
  have c1 : wc.cell? ⟨d0, 0, none⟩ = some (.string k0) := (ar a0.o 0).trans rfl
  have d1 : wc.cell? ⟨d0, 1, none⟩ = some (.string n0) := (ar a0.o 1).trans rfl
  have e1 : wc.cell? ⟨d0, 2, none⟩ = some (.int .i64 p0) := (ar a0.o 2).trans rfl
  have f1 := aj a0.o 0
  have g1 := aj a0.o 1
  have i1 := aj a0.o 2
  have j1 : wc.cell? ⟨f0, 0, none⟩ = some (.string (⟨#[]⟩ : ByteArray)) := (ar e0.o 0).trans rfl
  have l1 : wc.cell? ⟨f0, 1, none⟩ = some (.string (⟨#[]⟩ : ByteArray)) := (ar e0.o 1).trans rfl
  have m1 : wc.cell? ⟨f0, 2, none⟩ = some (.int .i64 0) := (ar e0.o 2).trans rfl
  have n1 := aj e0.o 0
  have p1 := aj e0.o 1
  have q1 := aj e0.o 2
  go_wp2
  refine bodyPost_ret (results_cell_row rfl _ _ f0 35 #[.string k0, .string n0, .int .i64 p0] (0, 0) _ rfl (by refine kK_ ?_; refine cd (cs := #[.string k0, .string n0, .int .i64 0]) ?_ 2 _ rfl; refine kK_ ?_; refine cd (cs := #[.string k0, .string (⟨#[]⟩ : ByteArray), .int .i64 0]) ?_ 1 _ rfl; refine kK_ ?_; refine cd (cs := #[.string (⟨#[]⟩ : ByteArray), .string (⟨#[]⟩ : ByteArray), .int .i64 0]) ?_ 0 _ rfl; exact rK_ e0.o) Tryz.underlying35 rfl (by kernel_rfl)) rfl ?_
  exact ⟨f1_, (u0_ q0.o t0.o)⟩
 ·replace b1 := Ca b1
  subst b1
  replace H := iF_ H
  obtain ⟨H0, R2, H⟩ := bN_ H
  obtain ⟨D0, T2, H⟩ := bN_ H
  obtain ⟨b2, H⟩ := iN_ H
  have y2 := ya b2
  have z2 := wa b2
  try have A2 : (9223372036854775807 < n0.size + a1.size) = False := eq_false (Nat.not_lt.2 b2)
  obtain ⟨bf_, hbf_⟩ : ∃ y_ : ByteArray, y_ = n0 ++ a1 := ⟨_, rfl⟩
  rw [← hbf_] at H
  have HBF_ := c_ hbf_
  clear hbf_
  have H' := c_ H
  clear H
  have hnb22 := b0.o
  have hnc22 := r0.o
  have t1 : wc.cell? ⟨d0, 0, none⟩ = some (.string k0) := (ar a0.o 0).trans rfl
  have y1 : wc.cell? ⟨d0, 1, none⟩ = some (.string n0) := (ar a0.o 1).trans rfl
  have z1 : wc.cell? ⟨d0, 2, none⟩ = some (.int .i64 p0) := (ar a0.o 2).trans rfl
  have A1 := aj a0.o 0
  have B1 := aj a0.o 1
  have C1 := aj a0.o 2
  go_wp2_with (first | (refine gq_ 40 (some 23) Tryz.func40 #[.string k0] (bm.calls Z1 k0 H0 _ R2.o) ?_; rintro e f3 ⟨U2, rfl, E0, hb⟩; refine ⟨_, rfl, ?_⟩; obtain ⟨C0, a0, e0, HB⟩ := b_ (sZ E0 (ac ((u0_ q0.o t0.o)))) <| b_ (bM (g := d0) (o := .cells #[.string k0, .string n0, .int .i64 p0] 35 (0, 0)) (rK_ a0.o) hb) <| b_ (bM (g := f0) (o := .cells #[.string (⟨#[]⟩ : ByteArray), .string (⟨#[]⟩ : ByteArray), .int .i64 0] 35 (0, 0)) (rK_ e0.o) hb) <| c_ (ab ((u0_ q0.o t0.o)) hb); (try clear E0)) | (refine gq_ 41 (some 24) Tryz.func41 #[] (eK.calls  D0 _ T2.o) ?_; rintro e c2 ⟨I0, rfl, E0, hb⟩; refine ⟨_, rfl, ?_⟩; obtain ⟨C0, J0, a0, e0, HB⟩ := b_ (s5 (rR_ C0.o) (sY E0) hb) <| b_ (sZ (ta E0 (ti (rR_ C0.o))) (ac ((u0_ q0.o t0.o)))) <| b_ (bM (g := d0) (o := .cells #[.string k0, .string n0, .int .i64 p0] 35 (0, 0)) (rK_ a0.o) hb) <| b_ (bM (g := f0) (o := .cells #[.string (⟨#[]⟩ : ByteArray), .string (⟨#[]⟩ : ByteArray), .int .i64 0] 35 (0, 0)) (rK_ e0.o) hb) <| c_ (ab ((u0_ q0.o t0.o)) hb); have D1 : c2.cell? ⟨d0, 0, none⟩ = some (.string k0) := (ar a0.o 0).trans rfl; have E1 : c2.cell? ⟨d0, 1, none⟩ = some (.string n0) := (ar a0.o 1).trans rfl; have F1 : c2.cell? ⟨d0, 2, none⟩ = some (.int .i64 p0) := (ar a0.o 2).trans rfl; have G1 := aj a0.o 0; have H1 := aj a0.o 1; have I1 := aj a0.o 2))
  rw [← HBF_.o]
  go_loopg [5, 8] Z1 (fun kq v5 v8 w' => ∃ (y0 : List Int) (v0 : Int), v8 = .int .i64 v0 ∧ aa (aG.l0 kq a1 y0 D0 bf_ v0 k0 n0 p0 = some (r1, r2, r3)) ∧ aa (kq ≤ Z1) ∧ aa (Kd.R (Kd.int .u32) 39 w' w.heap.size (fun k_ => some k_ ≠ (I0 : Value).ownBlock) v5 y0) ∧ aa (Kd.R (Kd.int .u32) 39 w' w.heap.size (fun k_ => some k_ ≠ (v5 : Value).ownBlock) I0 D0) ∧ aa (w'.heap[d0]? = some (.cells #[.string k0, .string n0, .int .i64 p0] 35 (0, 0))) ∧ aa (w'.heap[f0]? = some (.cells #[.string (⟨#[]⟩ : ByteArray), .string (⟨#[]⟩ : ByteArray), .int .i64 0] 35 (0, 0))) ∧ aa (Below w.heap.size w w'))
  case atStart => exact ⟨(H0), (0), f0_, H', ⟨Aa _⟩, ⟨by refine kR_ ?_; exact s9 C0.o (fun _ hk => hk.2)⟩, ⟨by refine kR_ ?_; exact s9 J0.o (fun _ hk => hk.2)⟩, ⟨by refine kK_ ?_; exact a0.o⟩, ⟨by refine kK_ ?_; exact e0.o⟩, ⟨(u0_ q0.o t0.o)⟩⟩
  clear H'
  obtain ⟨y0, v0, rfl, HA, B2, u0, x0, a0, e0, HB⟩ := hrel
  rcases gk with _ | k2
  ·exact absurd HA.o (by simp [aG.l0])
  have H := HA.o
  clear HA
  simp only [aG.l0] at H
  by_cases G0 : (wrap64 (v0 + 64)) ≤ (bf_.size : Int)
  ·rw [Da G0] at H
   have K0 := wa G0
   clear G0
   obtain ⟨d2, H⟩ := iN_ H
   have C2 := ya d2
   have D2 := wa d2
   clear d2
   obtain ⟨E2, H⟩ := iN_ H
   have F2 := ya E2
   have G2 := wa E2
   have H2 := ya (oD_ : (wrap64 (v0 + 64)) ≤ (bf_.size : Int))
   obtain ⟨L0, V2, H⟩ := bN_ H
   have H' := c_ H
   clear H
   obtain ⟨e2, f2, g2⟩ := s7 u0.o
   subst g2
   obtain ⟨i2, j2, l2⟩ := s7 x0.o
   subst l2
   go_wp2_with (first | (refine gq_ 42 (some 41) Tryz.func42 #[.slice e2 y0.length f2, .slice i2 D0.length j2, .string (bf_.extract (v0 : Int).toNat ((wrap64 (v0 + 64)) : Int).toNat)] (af.calls k2 _ _ y0 _ _ D0 (bf_.extract (v0 : Int).toNat ((wrap64 (v0 + 64)) : Int).toNat) L0 _ ?side1 ?side2 ?side3 ?side4 V2.o) ?_; (case side1 => exact cR_ (sX u0.o).2.2); (case side2 => exact (sX u0.o).2.1); (case side3 => exact cR_ (sX x0.o).2.2); (case side4 => exact (sX x0.o).2.1); rintro e g3 ⟨X2, rfl, E0, hb⟩; refine ⟨_, rfl, ?_⟩; obtain ⟨u0, x0, M0, a0, e0, HB⟩ := b_ (s5 (rR_ u0.o) (sY E0) hb) <| b_ (s5 (rR_ x0.o) (sY E0) hb) <| b_ (sZ (ta (ta E0 (ti (rR_ u0.o))) (ti (rR_ x0.o))) (ac ((u0_ q0.o t0.o)))) <| b_ (bM (g := d0) (o := .cells #[.string k0, .string n0, .int .i64 p0] 35 (0, 0)) (rK_ a0.o) hb) <| b_ (bM (g := f0) (o := .cells #[.string (⟨#[]⟩ : ByteArray), .string (⟨#[]⟩ : ByteArray), .int .i64 0] 35 (0, 0)) (rK_ e0.o) hb) <| c_ (ab ((u0_ q0.o t0.o)) hb); (try clear E0)))
   go_roundg k2
   case measure => have := v2.o; have := B2.o; omega
   case rel => exact ⟨(L0), (wrap64 (v0 + 64)), f0_, H', ⟨by have := v2.o; have := B2.o; omega⟩, ⟨by refine kR_ ?_; exact s9 M0.o (fun _ hk => hk.2)⟩, ⟨by refine kR_ ?_; exact s9 x0.o (fun _ hk => hk.2)⟩, ⟨by refine kK_ ?_; exact a0.o⟩, ⟨by refine kK_ ?_; exact e0.o⟩, ⟨(u0_ q0.o t0.o)⟩⟩
  rw [Ea G0] at H
  have K0 := xa G0
  clear G0
  obtain ⟨F0, Y2, H⟩ := bN_ H
  obtain ⟨m2, H⟩ := iN_ H
  have I2 := ya m2
  have J2 := wa m2
  clear m2
  obtain ⟨K2, H⟩ := iN_ H
  have L2 := ya K2
  have M2 := wa K2
  simp only [Option.some.injEq, Prod.mk.injEq] at H
  obtain ⟨rfl, rfl, rfl⟩ := H
  try go_wp2
  obtain ⟨u0, x0, a0, e0, HB⟩ := b_ (tl u0.o) <| b_ (tl x0.o) <| b_ (jo a0.o) <| b_ (jo e0.o) <| c_ (b8 HB.o)
  obtain ⟨n2, p2, N0⟩ := s7 u0.o
  (first | subst N0 | (injection N0 with f1_ f2_ f3_; have f4_ := f1_.symm; have f5_ := f3_.symm; clear f1_ f2_ f3_; subst f4_; subst f5_))
  refine d9 (n := 12) (S := fun w' => w'.cell? ⟨d0, 0, none⟩ = some (.string k0) ∧ w'.cell? ⟨d0, 1, none⟩ = some (.string n0) ∧ w'.cell? ⟨d0, 2, none⟩ = some (.int .i64 p0)) (ds := []) (bb_ 12 0) (by kernel_rfl) rfl rfl ⟨(ar a0.o 0).trans rfl, (ar a0.o 1).trans rfl, (ar a0.o 2).trans rfl⟩ (fun hHeld => ?_); refine cN aG.tab10 aG.bits10 (fun HT_ HW_ => ?_)
  generalize wr.drew = i3 at u0 x0 a0 e0 HB hHeld ⊢
  refine pT_ 0 44 12 1 ?_
  refine pT_ 2 46 12 5 ?_
  refine pT_ 3 47 12 13 ?_
  refine pT_ 4 48 12 29 ?_
  refine pT_ 5 49 12 61 ?_
  refine pT_ 7 51 12 189 ?_
  refine pT_ 8 52 12 445 ?_
  refine tS_ 6 50 (bb_ 12 509) (bx HT_.o HW_.o (by kernel_rfl)) hHeld ?_
  refine pT_ 9 53 12 1021 ?_
  refine fC (i := 1) (N := some 45) (bb_ 12 1023) rfl rfl (cD HT_.o (by kernel_rfl)) (by decide) (fun K hK => ?_)
  refine fv Tryz.func43 (by kernel_rfl) rfl #[.slice n2 y0.length p2] (by rfl) rfl rfl aM_ ?_
  with_reducible refine (bq.calls k2 _ _ y0 F0 _ ?side1 ?side2 Y2.o).mono ?_
  (case side1 => exact cR_ (sX u0.o).2.2)
  (case side2 => exact (sX u0.o).2.1)
  rintro e q2 ⟨rfl, hb⟩
  refine ⟨_, rfl, ?_⟩
  obtain ⟨u0, x0, a0, e0, HB⟩ := b_ (tc (rR_ u0.o) hb) <| b_ (tc (rR_ x0.o) hb) <| b_ (bM (g := d0) (o := .cells #[.string k0, .string n0, .int .i64 p0] 35 (0, 0)) (rK_ a0.o) hb) <| b_ (bM (g := f0) (o := .cells #[.string (⟨#[]⟩ : ByteArray), .string (⟨#[]⟩ : ByteArray), .int .i64 0] 35 (0, 0)) (rK_ e0.o) hb) <| c_ (ab ((u0_ q0.o t0.o)) hb)
  refine hK _ _ ⟨(ar a0.o 0).trans rfl, (ar a0.o 1).trans rfl, (ar a0.o 2).trans rfl⟩ (fun hHeld => ?_)
  clear hK K
  refine dL (a' := ?_) ?_ ?_
  rotate_left
  ·show Act.put _ (some 45) _ = _
   simp only [Act.put, List.setIfInBounds_toArray, List.set_cons_zero, List.set_cons_succ, bv, cG]
   rfl
  refine pT_ 10 54 12 2047 ?_
  refine fC (i := 11) (N := none) (bb_ 12 4095) rfl rfl (cD HT_.o (by kernel_rfl)) (by decide) (fun K hK => ?_)
  have Z2 : q2.cell? ⟨f0, 0, none⟩ = some (.string (⟨#[]⟩ : ByteArray)) := (ar e0.o 0).trans rfl
  have N2 := aj e0.o 0
  have J1 := b0.o
  have K1 := r0.o
  have b3 : q2.cell? ⟨f0, 1, none⟩ = some (.string (⟨#[]⟩ : ByteArray)) := (ar e0.o 1).trans rfl
  have O2 := aj e0.o 1
  have L1 := b0.o
  have M1 := r0.o
  have c3 : q2.cell? ⟨f0, 2, none⟩ = some (.int .i64 0) := (ar e0.o 2).trans rfl
  have P2 := aj e0.o 2
  have N1 := b0.o
  have O1 := r0.o
  refine iw (w1 := ?_) (by rfl) rfl ?_ ?_
  rotate_left
  ·go_simp
   rfl
  refine hK _ _ ⟨((fM (p := ⟨f0, _, none⟩) b0.o _).trans (((fM (p := ⟨f0, _, none⟩) b0.o _).trans (((fM (p := ⟨f0, _, none⟩) b0.o _).trans (hHeld.1)))))), ((fM (p := ⟨f0, _, none⟩) b0.o _).trans (((fM (p := ⟨f0, _, none⟩) b0.o _).trans (((fM (p := ⟨f0, _, none⟩) b0.o _).trans (hHeld.2.1)))))), ((fM (p := ⟨f0, _, none⟩) b0.o _).trans (((fM (p := ⟨f0, _, none⟩) b0.o _).trans (((fM (p := ⟨f0, _, none⟩) b0.o _).trans (hHeld.2.2))))))⟩ (fun hHeld => ?_)
  clear hK K
  refine fc (du HT_.o (by kernel_rfl)) ?_
  try go_wp2
  refine bodyPost_ret (results_cell_row rfl _ _ f0 35 #[.string F0, .string (bf_.extract (v0 : Int).toNat bf_.size), .int .i64 (wrap64 (p0 + (a1.size : Int)))] (0, 0) _ rfl (by refine kK_ ?_; refine cd (cs := #[.string F0, .string (bf_.extract (v0 : Int).toNat bf_.size), .int .i64 0]) ?_ 2 _ rfl; refine kK_ ?_; refine cd (cs := #[.string F0, .string (⟨#[]⟩ : ByteArray), .int .i64 0]) ?_ 1 _ rfl; refine kK_ ?_; refine cd (cs := #[.string (⟨#[]⟩ : ByteArray), .string (⟨#[]⟩ : ByteArray), .int .i64 0]) ?_ 0 _ rfl; exact rK_ e0.o) Tryz.underlying35 rfl (by kernel_rfl)) rfl ?_
  exact ⟨f1_, (u0_ q0.o t0.o)⟩
def eJ.f  : Option (List Int) := some (([1779033703, 3144134277, 1013904242, 2773480762, 1359893119, 2600822924, 528734635, 1541459225] : List Int))
theorem eJ.calls  (r : List Int) (w : World) (h : eJ.f  = some r) :
  Calls Tryz.prog 44 #[] w fun e w' => ∃ f0 : Value, e = .returned (f0) ∧ Kd.R (Kd.int .u32) 39 w' w.heap.size (fun _ => True) f0 r ∧ Below w.heap.size w w' := by
 have HB := c_ (Ba w.heap.size w)
 delta eJ.f at h
 have H := h
 clear h
 obtain ⟨j0, a0⟩ : ∃ y_ : List Int, y_ = (([1779033703, 3144134277, 1013904242, 2773480762, 1359893119, 2600822924, 528734635, 1541459225] : List Int)) := ⟨_, rfl⟩
 first | replace H := yb_ a0 H | rw [← a0] at H
 have b0 := c_ a0
 clear a0
 obtain rfl := za H
 go_enter Tryz.func44, Tryz.ntmps44
 go_wp2_with (first | ((refine aI (N := 1) rfl ?_); refine tn (Kd.int .u32) _ 39 ?hg (N := 1) ?hd (xs := ([1779033703, 3144134277, 1013904242, 2773480762, 1359893119, 2600822924, 528734635, 1541459225] : List Int)) (inner := [.int .u32 1779033703, .int .u32 3144134277, .int .u32 1013904242, .int .u32 2773480762, .int .u32 1359893119, .int .u32 2600822924, .int .u32 528734635, .int .u32 1541459225]) (ok := fun _ => True) (okp := fun _ => True) ?hr ?hp (fun _ hk => hk) trivial (Ba _ _) (Aa _) (by simp) ?_; (case hd => rfl); (case hg => rfl); (case hr => first | (go_simp; done) | (go_simp; rfl)); (case hp => exact (bA.one (show Kd.M (Kd.int .u32) _ _ _ 1779033703 [.int .u32 1779033703] from rfl) (bA.one (show Kd.M (Kd.int .u32) _ _ _ 3144134277 [.int .u32 3144134277] from rfl) (bA.one (show Kd.M (Kd.int .u32) _ _ _ 1013904242 [.int .u32 1013904242] from rfl) (bA.one (show Kd.M (Kd.int .u32) _ _ _ 2773480762 [.int .u32 2773480762] from rfl) (bA.one (show Kd.M (Kd.int .u32) _ _ _ 1359893119 [.int .u32 1359893119] from rfl) (bA.one (show Kd.M (Kd.int .u32) _ _ _ 2600822924 [.int .u32 2600822924] from rfl) (bA.one (show Kd.M (Kd.int .u32) _ _ _ 528734635 [.int .u32 528734635] from rfl) (bA.one (show Kd.M (Kd.int .u32) _ _ _ 1541459225 [.int .u32 1541459225] from rfl) (bA.none _ _)))))))))); intro k0 w1 d0 hb hg_ hnew_; clear hg_ hnew_; (first | rw [← b0.o] at d0 | (simp only [Int.reduceToNat] at d0; rw [← b0.o] at d0)); obtain ⟨e0, HB⟩ := b_ (sZ d0 (ac (hB_))) <| c_ (ab (hB_) hb); clear hb d0))
 go_ret
 exact ⟨_, f1_, rR_ e0.o, hB_⟩
def cI.f (k : Nat)  : Option (ByteArray × ByteArray × Int) := (eJ.f).bind fun t398 => ((bq.f k t398).bind fun t401 => (some (t401, (⟨#[]⟩ : ByteArray), 0)))
theorem cI.mono : ∀ k, LeO (cI.f k ) (cI.f (k + 1) ) := by
 intro  k
 unfold cI.f
 exact o1_ bq.mono
theorem cI.calls (k : Nat)  (r1 : ByteArray) (r2 : ByteArray) (r3 : Int) (w : World) (h : cI.f k  = some (r1, r2, r3)) :
  Calls Tryz.prog 17 #[] w fun e w' => e = .returned (.agg #[.string r1, .string r2, .int .i64 r3]) ∧ Below w.heap.size w w' := by
 have hu35 := Tryz.underlying35
 have HB := c_ (Ba w.heap.size w)
 delta cI.f at h
 have H := h
 clear h
 obtain ⟨j0, A1, H⟩ := bN_ H
 obtain ⟨f0, A2, H⟩ := bN_ H
 simp only [Option.some.injEq, Prod.mk.injEq] at H
 obtain ⟨rfl, rfl, rfl⟩ := H
 go_enter Tryz.func17, Tryz.ntmps17
 go_wp2_with (first | ((refine aI (N := 0) rfl ?_); refine cz ?hg (N := 0) ?hd (cs := #[.string (⟨#[]⟩ : ByteArray), .string (⟨#[]⟩ : ByteArray), .int .i64 0]) (t := 35) ?hr ?_; (case hd => rfl); (case hg => rfl); (case hr => first | (go_simp; done) | (go_simp; rfl)); intro b0 hg w3 hbox hb; obtain ⟨HB, a0, u0, e0⟩ := b_ (ab (hB_) hb) <| b_ (hbox) <| b_ (by rw [hg]; exact (ac (hB_)) : w.heap.size ≤ b0) <| c_ (by rw [hg]; exact (ac (hB_)) : w.heap.size ≤ b0); clear hb hbox hg) | (refine gq_ 44 (some 1) Tryz.func44 #[] (eJ.calls  j0 _ A1.o) ?_; rintro e w4 ⟨v0, rfl, x0, hb⟩; refine ⟨_, rfl, ?_⟩; obtain ⟨d0, a0, HB⟩ := b_ (sZ x0 (ac (hS_ e0.o))) <| b_ (bM (g := b0) (o := .cells #[.string (⟨#[]⟩ : ByteArray), .string (⟨#[]⟩ : ByteArray), .int .i64 0] 35 (0, 0)) (rK_ a0.o) hb) <| c_ (ab (hS_ e0.o) hb); obtain ⟨y0, B0, C0⟩ := s7 d0.o; subst C0) | (refine gq_ 43 (some 2) Tryz.func43 #[.slice y0 j0.length B0] (bq.calls k _ _ j0 f0 _ ?side1 ?side2 A2.o) ?_; (case side1 => exact cR_ (sX d0.o).2.2); (case side2 => exact (sX d0.o).2.1); rintro e w6 ⟨rfl, hb⟩; refine ⟨_, rfl, ?_⟩; obtain ⟨d0, a0, HB⟩ := b_ (tc (rR_ d0.o) hb) <| b_ (bM (g := b0) (o := .cells #[.string (⟨#[]⟩ : ByteArray), .string (⟨#[]⟩ : ByteArray), .int .i64 0] 35 (0, 0)) (rK_ a0.o) hb) <| c_ (ab (hS_ e0.o) hb); have k0 : w6.cell? ⟨b0, 0, none⟩ = some (.string (⟨#[]⟩ : ByteArray)) := (ar a0.o 0).trans rfl; have n0 : w6.cell? ⟨b0, 1, none⟩ = some (.string (⟨#[]⟩ : ByteArray)) := (ar a0.o 1).trans rfl; have p0 : w6.cell? ⟨b0, 2, none⟩ = some (.int .i64 0) := (ar a0.o 2).trans rfl; have q0 := aj a0.o 0; have r0 := aj a0.o 1; have t0 := aj a0.o 2))
 refine bodyPost_ret (results_cell_row rfl _ _ b0 35 #[.string f0, .string (⟨#[]⟩ : ByteArray), .int .i64 0] (0, 0) _ rfl (by refine kK_ ?_; refine cd (cs := #[.string f0, .string (⟨#[]⟩ : ByteArray), .int .i64 0]) ?_ 2 _ rfl; refine kK_ ?_; refine cd (cs := #[.string f0, .string (⟨#[]⟩ : ByteArray), .int .i64 0]) ?_ 1 _ rfl; refine kK_ ?_; refine cd (cs := #[.string (⟨#[]⟩ : ByteArray), .string (⟨#[]⟩ : ByteArray), .int .i64 0]) ?_ 0 _ rfl; exact rK_ a0.o) Tryz.underlying35 rfl (by kernel_rfl)) rfl ?_
 exact ⟨f1_, hS_ e0.o⟩
def cw.f (k : Nat) (a0 : ByteArray) : Option (Bool) := if (a0.size : Int) = 800 then ((ba.f k a0).bind fun bt409 => (some bt409.2)) else (some false)
theorem cw.mono : ∀ a0 k, LeO (cw.f k a0) (cw.f (k + 1) a0) := by
 intro a0 k
 unfold cw.f
 exact o1_ ba.mono
theorem cw.calls (k : Nat) (a0 : ByteArray) (r : Bool) (w : World) (h : cw.f k a0 = some r) :
  Calls Tryz.prog 34 #[.string a0] w fun e w' => e = .returned (.bool r) ∧ Below w.heap.size w w' := by
 have HB := c_ (Ba w.heap.size w)
 delta cw.f at h
 have H := h
 clear h
 by_cases c2 : (a0.size : Int) = 800
 ·rw [Da c2] at H
  have b0 : ((a0.size : Int) == 800) = true := beq_iff_eq.mpr c2
  have d0 : ((a0.size : Int) != 800) = false := bne_eq_false_iff_eq.mpr c2
  clear c2
  obtain ⟨⟨e0, f0⟩, A3, H⟩ := bN_ H
  obtain rfl := za H
  go_enter Tryz.func34, Tryz.ntmps34
  go_wp2_with (first | (refine gq_ 26 (some 10) Tryz.func26 #[.string a0] (ba.calls k a0 e0 f0 _ A3.o) ?_; rintro e w4 ⟨n0, rfl, j0, hb⟩; refine ⟨_, rfl, ?_⟩; obtain ⟨k0, HB⟩ := b_ (tz j0 (ac (hB_))) <| c_ (ab (hB_) hb); (try clear j0)))
  go_ret
  exact ⟨f1_, hB_⟩
 rw [Ea c2] at H
 have b0 : ((a0.size : Int) == 800) = false := beq_eq_false_iff_ne.mpr c2
 have d0 : ((a0.size : Int) != 800) = true := bne_iff_ne.mpr c2
 obtain rfl := za H
 go_enter Tryz.func34, Tryz.ntmps34
 go_wp2
 go_ret
 exact ⟨f1_, hB_⟩
def cH.f (a0 : Int) : Option (ByteArray) := if (Int.tmod a0 256) < 0 then (some (strOfNums (([(wrap64 ((Int.tmod a0 256) + 256)) % 256] : List Int)))) else (some (strOfNums (([(Int.tmod a0 256) % 256] : List Int))))
theorem cH.calls (a0 : Int) (r : ByteArray) (w : World) (h : cH.f a0 = some r) :
  Calls Tryz.prog 75 #[.int .i64 a0] w fun e w' => e = .returned (.string r) ∧ Below w.heap.size w w' := by
 have HB := c_ (Ba w.heap.size w)
 delta cH.f at h
 have H := h
 clear h
 by_cases c2 : (Int.tmod a0 256) < 0
 ·rw [Da c2] at H
  have q0 := wa c2
  clear c2
  obtain ⟨r0, b0⟩ : ∃ y_ : List Int, y_ = (([(wrap64 ((Int.tmod a0 256) + 256)) % 256] : List Int)) := ⟨_, rfl⟩
  first | replace H := yb_ b0 H | rw [← b0] at H
  have e0 := c_ b0
  clear b0
  obtain rfl := za H
  go_enter Tryz.func75, Tryz.ntmps75
  go_wp2_with (first | ((refine aI (N := 11) rfl ?_); refine tn (Kd.int .u8) _ 5 ?hg (N := 11) ?hd (xs := ([(wrap64 ((Int.tmod a0 256) + 256)) % 256] : List Int)) (inner := [.int .u8 ((wrap64 ((Int.tmod a0 256) + 256)) % 256)]) (ok := fun _ => True) (okp := fun _ => True) ?hr ?hp (fun _ hk => hk) trivial (Ba _ _) (Aa _) (by simp) ?_; (case hd => rfl); (case hg => rfl); (case hr => first | (go_simp; done) | (go_simp; rfl)); (case hp => exact (bA.one (show Kd.M (Kd.int .u8) _ _ _ ((wrap64 ((Int.tmod a0 256) + 256)) % 256) [.int .u8 ((wrap64 ((Int.tmod a0 256) + 256)) % 256)] from rfl) (bA.none _ _))); intro t0 w3 j0 hb hg_ hnew_; clear hg_ hnew_; (first | rw [← e0.o] at j0 | (simp only [Int.reduceToNat] at j0; rw [← e0.o] at j0)); obtain ⟨k0, HB⟩ := b_ (sZ j0 (ac (hB_))) <| c_ (ab (hB_) hb); clear hb j0; have u0 := dW (P := Tryz.prog) Tryz.underlying59 Tryz.underlying5 Tryz.underlying9 (tr k0.o)))
  go_ret
  exact ⟨f1_, hB_⟩
 rw [Ea c2] at H
 have q0 := xa c2
 clear c2
 obtain ⟨v0, d0⟩ : ∃ y_ : List Int, y_ = (([(Int.tmod a0 256) % 256] : List Int)) := ⟨_, rfl⟩
 first | replace H := yb_ d0 H | rw [← d0] at H
 have f0 := c_ d0
 clear d0
 obtain rfl := za H
 go_enter Tryz.func75, Tryz.ntmps75
 go_wp2_with (first | ((refine aI (N := 11) rfl ?_); refine tn (Kd.int .u8) _ 5 ?hg (N := 11) ?hd (xs := ([(Int.tmod a0 256) % 256] : List Int)) (inner := [.int .u8 ((Int.tmod a0 256) % 256)]) (ok := fun _ => True) (okp := fun _ => True) ?hr ?hp (fun _ hk => hk) trivial (Ba _ _) (Aa _) (by simp) ?_; (case hd => rfl); (case hg => rfl); (case hr => first | (go_simp; done) | (go_simp; rfl)); (case hp => exact (bA.one (show Kd.M (Kd.int .u8) _ _ _ ((Int.tmod a0 256) % 256) [.int .u8 ((Int.tmod a0 256) % 256)] from rfl) (bA.none _ _))); intro x0 w6 n0 hb hg_ hnew_; clear hg_ hnew_; (first | rw [← f0.o] at n0 | (simp only [Int.reduceToNat] at n0; rw [← f0.o] at n0)); obtain ⟨p0, HB⟩ := b_ (sZ n0 (ac (hB_))) <| c_ (ab (hB_) hb); clear hb n0; have y0 := dW (P := Tryz.prog) Tryz.underlying59 Tryz.underlying5 Tryz.underlying9 (tr p0.o)))
 go_ret
 exact ⟨f1_, hB_⟩
mutual
def aQ.l0 : Nat → ByteArray → List Int → Int → Option (List Int)
 | 0, _, _, _ => none
 | k + 1, x0, x3, x4 => if (wrap64 (x4 + 8)) ≤ (x0.size : Int) then (aQ.l1 k x0 x3 x4 0 7) else (some x3)
def aQ.l1 : Nat → ByteArray → List Int → Int → Int → Int → Option (List Int)
 | 0, _, _, _, _, _ => none
 | k + 1, x0, x3, x4, x5, x6 => if x6 ≥ 0 then (if 0 ≤ (wrap64 (x4 + x6)) then (if (wrap64 (x4 + x6)) < (x0.size : Int) then (aQ.l1 k x0 x3 x4 (IntKind.u64.wrap ((IntKind.u64.wrap (x5 * 256)) + (IntKind.u64.wrap (bt x0 (wrap64 (x4 + x6)))))) (wrap64 (x6 - 1))) else (none)) else (none)) else (if x3.length < 17592186044416 then (aQ.l0 k x0 (x3 ++ [x5]) (wrap64 (x4 + 8))) else (none))
end
def aQ.f (k : Nat) (a0 : ByteArray) : Option (List Int) := aQ.l0 k a0 (([] : List Int)) 0
theorem aQ.mono_l : ∀ k, (∀ y0 y1 y2, LeO (aQ.l0 k y0 y1 y2) (aQ.l0 (k + 1) y0 y1 y2)) ∧ (∀ y0 y1 y2 y3 y4, LeO (aQ.l1 k y0 y1 y2 y3 y4) (aQ.l1 (k + 1) y0 y1 y2 y3 y4))
 | 0 => ⟨fun _ _ _ r h => by simp [aQ.l0] at h, fun _ _ _ _ _ r h => by simp [aQ.l1] at h⟩
 | k + 1 => by
  obtain ⟨ih0, ih1⟩ := aQ.mono_l k
  refine ⟨?_, ?_⟩ <;> (intros; (first | unfold aQ.l0 | unfold aQ.l1); exact o2_ ih0 ih1)
theorem aQ.mono : ∀ a0 k, LeO (aQ.f k a0) (aQ.f (k + 1) a0) := by
 intro a0 k
 obtain ⟨ih0, ih1⟩ := aQ.mono_l k
 unfold aQ.f
 exact o2_ ih0 ih1
theorem aQ.calls (k : Nat) (a0 : ByteArray) (r : List Int) (w : World) (h : aQ.f k a0 = some r) :
  Calls Tryz.prog 105 #[.string a0] w fun e w' => ∃ H0 : Value, e = .returned (H0) ∧ Kd.R (Kd.int .u64) 93 w' w.heap.size (fun _ => True) H0 r ∧ Below w.heap.size w w' := by
 have HB := c_ (Ba w.heap.size w)
 delta aQ.f at h
 have H := h
 clear h
 obtain ⟨D0, j0⟩ : ∃ y_ : List Int, y_ = (([] : List Int)) := ⟨_, rfl⟩
 first | replace H := yb_ j0 H | rw [← j0] at H
 have q0 := c_ j0
 clear j0
 have H' := c_ H
 clear H
 go_enter Tryz.func105, Tryz.ntmps105
 go_wp2_with (first | ((refine aI (N := 7) rfl ?_); refine tn (Kd.int .u64) _ 93 ?hg (N := 7) ?hd (xs := ([] : List Int)) (inner := []) (ok := fun _ => True) (okp := fun _ => True) ?hr ?hp (fun _ hk => hk) trivial (Ba _ _) (Aa _) (by simp) ?_; (case hd => rfl); (case hg => rfl); (case hr => first | (go_simp; done) | (go_simp; rfl)); (case hp => exact (bA.none _ _)); intro K0 w2 r0 hb hg_ hnew_; clear hg_ hnew_; (first | rw [← q0.o] at r0 | (simp only [Int.reduceToNat] at r0; rw [← q0.o] at r0)); obtain ⟨t0, HB⟩ := b_ (sZ r0 (ac (hB_))) <| c_ (ab (hB_) hb); clear hb r0))
 go_loopg [3, 4] k (fun kq v3 v4 w' => ∃ (d0 : List Int) (b0 : Int), v4 = .int .i64 b0 ∧ aa (aQ.l0 kq a0 d0 b0 = some r) ∧ aa (kq ≤ k) ∧ aa (Kd.R (Kd.int .u64) 93 w' w.heap.size (fun _ => True) v3 d0) ∧ aa (Below w.heap.size w w'))
 case atStart => exact ⟨(D0), (0), f0_, H', ⟨Aa _⟩, ⟨rR_ t0.o⟩, ⟨hB_⟩⟩
 clear H'
 obtain ⟨d0, b0, rfl, HA, B0, n0, HB⟩ := hrel
 rcases gk with _ | k1
 ·exact absurd HA.o (by simp [aQ.l0])
 have H := HA.o
 clear HA
 simp only [aQ.l0] at H
 by_cases c4 : (wrap64 (b0 + 8)) ≤ (a0.size : Int)
 rotate_left
 ·rw [Ea c4] at H
  have E0 := xa c4
  clear c4
  obtain rfl := za H
  go_wp2
  go_ret
  exact ⟨_, f1_, rR_ n0.o, hB_⟩
 rw [Da c4] at H
 have E0 := wa c4
 clear c4
 have H' := c_ H
 clear H
 go_wp2
 go_loopg [5, 6] k1 (fun kq v5 v6 w' => ∃ (e0 : Int) (f0 : Int), v5 = .int .u64 e0 ∧ v6 = .int .i64 f0 ∧ aa (aQ.l1 kq a0 d0 b0 e0 f0 = some r) ∧ aa (kq ≤ k1) ∧ aa (Kd.R (Kd.int .u64) 93 w' w.heap.size (fun _ => True) u3 d0) ∧ aa (Below w.heap.size w w'))
 case atStart => exact ⟨(0), (7), f0_, f0_, H', ⟨Aa _⟩, ⟨rR_ n0.o⟩, ⟨hB_⟩⟩
 clear H'
 obtain ⟨e0, f0, rfl, rfl, HA, C0, n0, HB⟩ := hrel
 rcases gk with _ | k2
 ·exact absurd HA.o (by simp [aQ.l1])
 have H := HA.o
 clear HA
 simp only [aQ.l1] at H
 by_cases c5 : f0 ≥ 0
 ·rw [Da c5] at H
  have F0 := wa c5
  clear c5
  obtain ⟨u0, p0⟩ : ∃ j_ : Int, (wrap64 (b0 + f0)) = j_ := ⟨_, rfl⟩
  first | rw [p0] at H | simp only [p0] at H
  have I0 : (IntKind.i64.wrap (b0 + f0)) = u0 := (bv _).trans p0
  obtain ⟨L0, H⟩ := iD_ H
  obtain ⟨M0, H⟩ := iD_ H
  have H' := c_ H
  clear H
  have p9 := ya (oD_ : 0 ≤ ((u0) : Int))
  have q9 := ya (oD_ : (u0) < (a0.size : Int))
  have O0 := cP a0 (u0)
  go_wp2
  go_roundg k2
  case measure => have := B0.o; have := C0.o; omega
  case rel => exact ⟨(IntKind.u64.wrap ((IntKind.u64.wrap (e0 * 256)) + (IntKind.u64.wrap (bt a0 (u0))))), (wrap64 (f0 - 1)), (by first | rfl | (simp; done) | (simp only [← p0] <;> (first | rfl | simp)) | (simp [*]; done)), f0_, H', ⟨by have := B0.o; have := C0.o; omega⟩, ⟨rR_ n0.o⟩, ⟨hB_⟩⟩
 rw [Ea c5] at H
 have F0 := xa c5
 clear c5
 obtain ⟨J0, H⟩ := iN_ H
 have v0 := c_ J0
 clear J0
 obtain ⟨G0, k0⟩ : ∃ y_ : List Int, y_ = (d0 ++ [e0]) := ⟨_, rfl⟩
 first | replace H := yb_ k0 H | rw [← k0] at H
 have x0 := c_ k0
 clear k0
 have H' := c_ H
 clear H
 go_wp2_with (first | ((refine aU (b := .append) (xs := #[.tmp 28, .tmp 30]) rfl ?_); at_builtin; refine tf (Kd.int .u64) (w0 := w) w.heap.size rfl (.tmp 28) (.tmp 30) 91 93 (.int .u64 0) 8 rfl Tryz.underlying91 jN rfl (by decide) (by omega) u3 d0 e0 [.int .u64 e0] (fun _ => True) (fun _ => False) rfl rfl ?aP (fun _ hk => hk.elim) ?aF ?aO ?aB ?aS ?aL ?_; (case aP => exact rfl); (case aB => exact (hB_)); (case aF => exact (fun _ _ => trivial)); (case aO => exact (rR_ n0.o)); (case aS => exact (ac (hB_))); (case aL => have := v0.o; omega); intro N0 P0 ho hb hg hat; rw [← x0.o] at ho; obtain ⟨HB, y0⟩ := b_ (hb) <| c_ (ho); clear ho hb hg hat))
 go_roundg k2
 case measure => have := B0.o; have := C0.o; omega
 case rel => exact ⟨(G0), (wrap64 (b0 + 8)), f0_, H', ⟨by have := B0.o; have := C0.o; omega⟩, ⟨rR_ y0.o⟩, ⟨hB_⟩⟩
def bF.l0 : Nat → List Int → Int → Int → Int → Option (List Int)
 | 0, _, _, _, _ => none
 | k + 1, x1, x2, x3, x4 => if x4 < 24 then (if 0 ≤ (wrap64 (x2 + (wrap64 (5 * x3)))) then (if (wrap64 (x2 + (wrap64 (5 * x3)))) < (x1.length : Int) then (bF.l0 k (x1.set ((wrap64 (x2 + (wrap64 (5 * x3)))) : Int).toNat (Int.tmod (wrap64 (Int.tdiv (wrap64 ((wrap64 (x4 + 1)) * (wrap64 (x4 + 2)))) 2)) 64)) x3 (Int.tmod (wrap64 ((wrap64 (2 * x2)) + (wrap64 (3 * x3)))) 5) (wrap64 (x4 + 1))) else (none)) else (none)) else (some x1)
def bF.f (k : Nat)  : Option (List Int) := if 25 ≤ 35184372088832 then (bF.l0 k (List.replicate 25 0) 1 0 0) else (none)
theorem bF.mono_l : ∀ k, (∀ y0 y1 y2 y3, LeO (bF.l0 k y0 y1 y2 y3) (bF.l0 (k + 1) y0 y1 y2 y3))
 | 0 => fun _ _ _ _ r h => by simp [bF.l0] at h
 | k + 1 => by
  have ih0 := bF.mono_l k
  intros; unfold bF.l0; exact o1_ ih0
theorem bF.mono : ∀ k, LeO (bF.f k ) (bF.f (k + 1) ) := by
 intro  k
 have ih0 := bF.mono_l k
 unfold bF.f
 exact o1_ ih0
theorem bF.calls (k : Nat)  (r : List Int) (w : World) (h : bF.f k  = some r) :
  Calls Tryz.prog 111 #[] w fun e w' => ∃ D0 : Value, e = .returned (D0) ∧ Kd.R (Kd.int .i64) 3 w' w.heap.size (fun _ => True) D0 r ∧ Below w.heap.size w w' := by
 have HB := c_ (Ba w.heap.size w)
 delta bF.f at h
 have H := h
 clear h
 obtain ⟨c1, H⟩ := iN_ H
 have J0 := ya c1
 have K0 := wa c1
 clear c1
 obtain ⟨x0, d0⟩ : ∃ y_ : List Int, y_ = (List.replicate 25 0) := ⟨_, rfl⟩
 first | replace H := yb_ d0 H | rw [← d0] at H
 have n0 := c_ d0
 clear d0
 have H' := c_ H
 clear H
 go_enter Tryz.func111, Tryz.ntmps111
 go_wp2_with (first | ((refine aI (N := 6) rfl ?_); refine tw (Kd.int .i64) _ 3 rfl (N := 6) rfl 28 _ _ rfl 25 rfl rfl Tryz.underlying28 (.int .i64 0) 8 cY rfl (by decide) (by omega) 0 (ok := fun _ => True) (okp := fun _ => True) rfl (fun _ hk => hk) trivial (by omega) (by omega) (Ba _ _) (Aa _) ?_; intro y0 w2 r0 hb hg_ hnew_; clear hg_ hnew_; (first | rw [← n0.o] at r0 | (simp only [Int.reduceToNat] at r0; rw [← n0.o] at r0)); obtain ⟨t0, HB⟩ := b_ (sZ r0 (ac (hB_))) <| c_ (ab (hB_) hb); clear hb r0))
 go_loopg [2, 3, 4] k (fun kq v2 v3 v4 w' => ∃ (f0 : List Int) (j0 : Int) (b0 : Int) (a0 : Int), v2 = .int .i64 j0 ∧ v3 = .int .i64 b0 ∧ v4 = .int .i64 a0 ∧ aa (bF.l0 kq f0 j0 b0 a0 = some r) ∧ aa (kq ≤ k) ∧ aa (Kd.R (Kd.int .i64) 3 w' w.heap.size (fun _ => True) y0 f0) ∧ aa (Below w.heap.size w w'))
 case atStart => exact ⟨(x0), (1), (0), (0), f0_, f0_, f0_, H', ⟨Aa _⟩, ⟨rR_ t0.o⟩, ⟨hB_⟩⟩
 clear H'
 obtain ⟨f0, j0, b0, a0, rfl, rfl, rfl, HA, E0, k0, HB⟩ := hrel
 rcases gk with _ | k1
 ·exact absurd HA.o (by simp [bF.l0])
 have H := HA.o
 clear HA
 simp only [bF.l0] at H
 by_cases c4 : a0 < 24
 rotate_left
 ·rw [Ea c4] at H
  have B0 := xa c4
  clear c4
  obtain rfl := za H
  go_wp2
  go_ret
  exact ⟨_, f1_, rR_ k0.o, hB_⟩
 rw [Da c4] at H
 have B0 := wa c4
 clear c4
 obtain ⟨p0, q0⟩ : ∃ j_ : Int, (wrap64 (j0 + (wrap64 (5 * b0)))) = j_ := ⟨_, rfl⟩
 first | rw [q0] at H | simp only [q0] at H
 have F0 : (IntKind.i64.wrap (j0 + (wrap64 (5 * b0)))) = p0 := (bv _).trans q0
 obtain ⟨L0, H⟩ := iD_ H
 obtain ⟨M0, H⟩ := iD_ H
 obtain ⟨u0, e0⟩ : ∃ y_ : List Int, y_ = (f0.set ((p0) : Int).toNat (Int.tmod (wrap64 (Int.tdiv (wrap64 ((wrap64 (a0 + 1)) * (wrap64 (a0 + 2)))) 2)) 64)) := ⟨_, rfl⟩
 first | replace H := yb_ e0 H | rw [← e0] at H
 have v0 := c_ e0
 clear e0
 have H' := c_ H
 clear H
 have p8 : 0 ≤ ((p0) : Int) := oD_
 have q8 : ((p0) : Int) < ((f0.length : Int) : Int) := oD_
 obtain ⟨go8, N0, G0, H0, gl8, cl8, HG8⟩ := tt k0.o (by omega)
 (first | cases G0 | (injection G0 with ea_ en_ ec_; (first | subst ea_ | (injection ea_ with ea_; subst ea_)); subst ec_; clear en_))
 have O0 := c_ H0
 have GG8 := c_ HG8
 clear H0 gl8 HG8
 obtain ⟨I0, hf8_0⟩ := te 0 k0.o ((p0) : Int) p8 q8
 replace p8 := ya p8
 replace q8 := ya q8
 have HP9 := tm k0.o ((p0) : Int) (Int.tmod (wrap64 (Int.tdiv (wrap64 ((wrap64 (a0 + 1)) * (wrap64 (a0 + 2)))) 2)) 64)
 go_wp2_with (first | ((refine cn (t := 3) (p := 23) rfl ?_); refine ce (t := 3) (p := 23) (v := ?vo_w10) (w1 := (wr.setCell ⟨go8, ((p0) : Int).toNat, none⟩ (.int .i64 (Int.tmod (wrap64 (Int.tdiv (wrap64 ((wrap64 (a0 + 1)) * (wrap64 (a0 + 2)))) 2)) 64)))) ?hg ?ho ?hn ?hr ?_; (case ho => rfl); (case hg => rfl); (case hn => rfl); (case hr => first | (go_simp; done) | (go_simp; rfl)); intro C0 hw; have hg : wr.grownBy C0 (some go8) := (by rw [hw]; exact HP9.2); have hp_ : Kd.R (Kd.int .i64) 3 C0 w.heap.size (fun _ => True) (.slice (some ⟨go8, 0, none⟩) f0.length N0) u0 := (by rw [hw, v0.o]; exact HP9.1); clear HP9; obtain ⟨k0, HB⟩ := b_ (hp_) <| c_ (by rw [hw]; exact cq (HB.o) O0.o : Below w.heap.size w C0); clear hg hw hp_))
 go_roundg k1
 case measure => have := E0.o; omega
 case rel => exact ⟨(u0), (b0), (Int.tmod (wrap64 ((wrap64 (2 * j0)) + (wrap64 (3 * b0)))) 5), (wrap64 (a0 + 1)), f0_, f0_, f0_, H', ⟨by have := E0.o; omega⟩, ⟨rR_ k0.o⟩, ⟨hB_⟩⟩
end Go.Proofs.YtooanbpkknlmjaaGreatDoor.P
