-- printed texts of this session, regrouped
import Derived.Test.YtnckhligcdieaaaMWA
import Derived.Test.YtnckhligcdieaaaMW7
import Derived.Test.YtnckhligcdieaaaMW8
import Derived.Test.YtnckhligcdieaaaMW6
import Derived.Test.YtnckhligcdieaaaPx0
import Derived.Test.YtnckhligcdieaaaPx1
import Derived.Test.YtnckhligcdieaaaPx5
namespace Go.Proofs.Ytnckhligcdieaaa.P
open Go.RowKit Go.Proofs.YtnckhligcdieaaaW.PrintWords Go.Proofs.YtnckhligcdieaaaW.PrintLast Go.Proofs.YtnckhligcdieaaaW.PrintMore
attribute [local go_sem] max2_int min2_int max_two min_two max_three min_three max_four min_four   -- for this text's walks alone
set_option linter.unusedVariables false
set_option linter.unusedSimpArgs false
set_option maxHeartbeats 8000000
set_option maxRecDepth 100000

/-! ### spec_l05Round: function 145 -/
mutual
def spec_l05Round.l0 : Nat → List Int → List Int → List Int → Int → Option (List Int)
 | 0, _, _, _, _ => none
 | k + 1, x0, x1, x7, x8 => if x8 < 64 then (if 0 ≤ (wrap64 (x8 - 2)) then (if (wrap64 (x8 - 2)) < (x7.length : Int) then ((spec_l05S.f (rd x7 (wrap64 (x8 - 2))) 131072 524288 1024 true).bind fun t169 => (if 0 ≤ (wrap64 (x8 - 7)) then (if (wrap64 (x8 - 7)) < (x7.length : Int) then (if 0 ≤ (wrap64 (x8 - 15)) then (if (wrap64 (x8 - 15)) < (x7.length : Int) then ((spec_l05S.f (rd x7 (wrap64 (x8 - 15))) 128 262144 8 true).bind fun t172 => (if 0 ≤ (wrap64 (x8 - 16)) then (if (wrap64 (x8 - 16)) < (x7.length : Int) then (if x7.length < 35184372088832 then (spec_l05Round.l0 k x0 x1 (x7 ++ [(((((t169 + (rd x7 (wrap64 (x8 - 7)))) % 4294967296) + t172) % 4294967296) + (rd x7 (wrap64 (x8 - 16)))) % 4294967296]) (wrap64 (x8 + 1))) else (none)) else (none)) else (none))) else (none)) else (none)) else (none)) else (none))) else (none)) else (none)) else ((some (([] : List Int) : List Int)).bind fun y177 => (if y177.length + x0.length < 35184372088832 then (spec_l05Round.l1 k x0 x1 x7 (y177 ++ x0) 0) else (none)))
def spec_l05Round.l1 : Nat → List Int → List Int → List Int → List Int → Int → Option (List Int)
 | 0, _, _, _, _, _ => none
 | k + 1, x0, x1, x7, x9, x10 => if x10 < 64 then (if 4 < (x9.length : Int) then (if 5 < (x9.length : Int) then (if 6 < (x9.length : Int) then (if 7 < (x9.length : Int) then ((spec_l05S.f (rd x9 4) 64 2048 33554432 false).bind fun t187 => (if 0 ≤ x10 then (if x10 < (x1.length : Int) then (if x10 < (x7.length : Int) then (if 0 < (x9.length : Int) then (if 1 < (x9.length : Int) then (if 2 < (x9.length : Int) then ((spec_l05S.f (rd x9 0) 4 8192 4194304 false).bind fun t197 => (spec_l05Round.l2 k x0 x1 x7 x9 x10 (((((((((rd x9 7) + t187) % 4294967296) + (Go.bits .xor .u32 (Go.bits .and .u32 (rd x9 4) (rd x9 5)) (Go.bits .and .u32 ((4294967295 - (rd x9 4)) % 4294967296) (rd x9 6)))) % 4294967296) + (rd x1 x10)) % 4294967296) + (rd x7 x10)) % 4294967296) ((t197 + (Go.bits .xor .u32 (Go.bits .xor .u32 (Go.bits .and .u32 (rd x9 0) (rd x9 1)) (Go.bits .and .u32 (rd x9 0) (rd x9 2))) (Go.bits .and .u32 (rd x9 1) (rd x9 2)))) % 4294967296) 7)) else (none)) else (none)) else (none)) else (none)) else (none)) else (none))) else (none)) else (none)) else (none)) else (none)) else (spec_l05Round.l3 k x0 x9 (([] : List Int)) 0)
def spec_l05Round.l2 : Nat → List Int → List Int → List Int → List Int → Int → Int → Int → Int → Option (List Int)
 | 0, _, _, _, _, _, _, _, _ => none
 | k + 1, x0, x1, x7, x9, x10, x13, x15, x16 => if x16 > 0 then (if 0 ≤ (wrap64 (x16 - 1)) then (if (wrap64 (x16 - 1)) < (x9.length : Int) then (if 0 ≤ x16 then (if x16 < (x9.length : Int) then (spec_l05Round.l2 k x0 x1 x7 (x9.set (x16 : Int).toNat (rd x9 (wrap64 (x16 - 1)))) x10 x13 x15 (wrap64 (x16 - 1))) else (none)) else (none)) else (none)) else (none)) else (if 4 < (x9.length : Int) then (if 0 < (x9.length : Int) then (spec_l05Round.l1 k x0 x1 x7 ((x9.set (4 : Int).toNat (((rd x9 4) + x13) % 4294967296)).set (0 : Int).toNat ((x13 + x15) % 4294967296)) (wrap64 (x10 + 1))) else (none)) else (none))
def spec_l05Round.l3 : Nat → List Int → List Int → List Int → Int → Option (List Int)
 | 0, _, _, _, _ => none
 | k + 1, x0, x9, x17, x18 => if x18 < 8 then (if 0 ≤ x18 then (if x18 < (x0.length : Int) then (if x18 < (x9.length : Int) then (if x17.length < 35184372088832 then (spec_l05Round.l3 k x0 x9 (x17 ++ [((rd x0 x18) + (rd x9 x18)) % 4294967296]) (wrap64 (x18 + 1))) else (none)) else (none)) else (none)) else (none)) else (some x17)
end
def spec_l05Round.f (k : Nat) (l0 : List Int) (l1 : List Int) (a2 : ByteArray) : Option (List Int) := (spec_l05Words.f k a2).bind fun t165 => (spec_l05Round.l0 k l0 l1 t165 16)
theorem spec_l05Round.mono_l : ∀ k, (∀ y0 y1 y2 y3, LeO (spec_l05Round.l0 k y0 y1 y2 y3) (spec_l05Round.l0 (k + 1) y0 y1 y2 y3)) ∧ (∀ y0 y1 y2 y3 y4, LeO (spec_l05Round.l1 k y0 y1 y2 y3 y4) (spec_l05Round.l1 (k + 1) y0 y1 y2 y3 y4)) ∧ (∀ y0 y1 y2 y3 y4 y5 y6 y7, LeO (spec_l05Round.l2 k y0 y1 y2 y3 y4 y5 y6 y7) (spec_l05Round.l2 (k + 1) y0 y1 y2 y3 y4 y5 y6 y7)) ∧ (∀ y0 y1 y2 y3, LeO (spec_l05Round.l3 k y0 y1 y2 y3) (spec_l05Round.l3 (k + 1) y0 y1 y2 y3))
 | 0 => ⟨fun _ _ _ _ r h => by simp [spec_l05Round.l0] at h, fun _ _ _ _ _ r h => by simp [spec_l05Round.l1] at h, fun _ _ _ _ _ _ _ _ r h => by simp [spec_l05Round.l2] at h, fun _ _ _ _ r h => by simp [spec_l05Round.l3] at h⟩
 | k + 1 => by
  obtain ⟨ih0, ih1, ih2, ih3⟩ := spec_l05Round.mono_l k
  refine ⟨?_, ?_, ?_, ?_⟩ <;> (intros; (first | unfold spec_l05Round.l0 | unfold spec_l05Round.l1 | unfold spec_l05Round.l2 | unfold spec_l05Round.l3); exact o5_ ih0 ih1 ih2 ih3 spec_l05Words.mono)
theorem spec_l05Round.mono : ∀ a0 a1 a2 k, LeO (spec_l05Round.f k a0 a1 a2) (spec_l05Round.f (k + 1) a0 a1 a2) := by
 intro a0 a1 a2 k
 obtain ⟨ih0, ih1, ih2, ih3⟩ := spec_l05Round.mono_l k
 unfold spec_l05Round.f
 exact o5_ ih0 ih1 ih2 ih3 spec_l05Words.mono
def spec_l05Round.T5 : Bool × List (List Nat × List Nat) := (true, [([], []), ([], []), ([], []), ([2], [2]), ([1, 3], [1, 3]), ([4], [4]), ([5], [5]), ([], []), ([], []), ([8], [8]), ([7, 9], [7, 9]), ([10], [10]), ([6, 11], [6, 11]), ([], []), ([], []), ([14], [14]), ([13, 15], [13, 15]), ([16], [16]), ([17, 6], [17]), ([12, 18], [12, 18]), ([], []), ([], []), ([21], [21]), ([20, 22], [20, 22]), ([23], [23]), ([19, 24], [19, 24]), ([25], [25]), ([0, 26, 18], [0, 26]), ([27, 27, 0, 1, 2, 3, 4, 5, 6, 7, 8, 9, 10, 11, 12, 13, 14, 15, 16, 17, 18, 19, 20, 21, 22, 23, 24, 25, 26, 27], [0, 1, 7, 13, 20, 27])])
def spec_l05Round.B5 : List Nat := [0, 0, 0, 4, 14, 30, 62, 0, 0, 256, 896, 1920, 4094, 0, 0, 16384, 57344, 122880, 254078, 524286, 0, 0, 2097152, 7340032, 15728640, 33554430, 67108862, 134217727, 268435455]
theorem spec_l05Round.tab5 : rtab .any (opsOf Try.f145 5) = spec_l05Round.T5 := by kernel_rfl
theorem spec_l05Round.bits5 : waitsOk spec_l05Round.T5.2 spec_l05Round.B5 = true := by kernel_rfl
def spec_l05Round.T11 : Bool × List (List Nat × List Nat) := (true, [([], []), ([], []), ([1], [1]), ([2], [2]), ([0, 3], [0, 3]), ([], []), ([5], [5]), ([], []), ([7], [7]), ([8], [8]), ([6, 9], [6, 9]), ([4, 10], [4, 10]), ([11, 0, 1, 2, 3, 4, 5, 6, 7, 8, 9, 10, 11], [11])])
def spec_l05Round.B11 : List Nat := [0, 0, 2, 6, 15, 0, 32, 0, 128, 384, 992, 2047, 4095]
theorem spec_l05Round.tab11 : rtab .any (opsOf Try.f145 11) = spec_l05Round.T11 := by kernel_rfl
theorem spec_l05Round.bits11 : waitsOk spec_l05Round.T11.2 spec_l05Round.B11 = true := by kernel_rfl
def spec_l05Round.T12 : Bool × List (List Nat × List Nat) := (true, [([], []), ([0], [0]), ([1], [1]), ([], []), ([3], [3]), ([2, 4], [2, 4]), ([], []), ([5, 6], [5, 6]), ([], []), ([], []), ([8, 9], [8, 9]), ([10], [10]), ([7, 11], [7, 11]), ([], []), ([], []), ([13, 14], [13, 14]), ([15], [15]), ([12, 16], [12, 16]), ([17, 4, 0, 1, 2, 3, 4, 5, 6, 7, 8, 9, 10, 11, 12, 13, 14, 15, 16, 17], [17])])
def spec_l05Round.B12 : List Nat := [0, 1, 3, 0, 8, 31, 0, 127, 0, 0, 768, 1792, 4095, 0, 0, 24576, 57344, 131071, 262143]
theorem spec_l05Round.tab12 : rtab .any (opsOf Try.f145 12) = spec_l05Round.T12 := by kernel_rfl
theorem spec_l05Round.bits12 : waitsOk spec_l05Round.T12.2 spec_l05Round.B12 = true := by kernel_rfl
def spec_l05Round.T13 : Bool × List (List Nat × List Nat) := (true, [([], []), ([0], [0]), ([1], [1]), ([], []), ([3], [3]), ([4], [4]), ([2, 5], [2, 5]), ([], []), ([7], [7]), ([8], [8]), ([], []), ([10], [10]), ([11], [11]), ([9, 12], [9, 12]), ([6, 13], [6, 13]), ([], []), ([15], [15]), ([16], [16]), ([], []), ([18], [18]), ([19], [19]), ([17, 20], [17, 20]), ([14, 21], [14, 21]), ([22, 0, 1, 2, 3, 4, 5, 6, 7, 8, 9, 10, 11, 12, 13, 14, 15, 16, 17, 18, 19, 20, 21, 22], [22])])
def spec_l05Round.B13 : List Nat := [0, 1, 3, 0, 8, 24, 63, 0, 128, 384, 0, 1024, 3072, 8064, 16383, 0, 32768, 98304, 0, 262144, 786432, 2064384, 4194303, 8388607]
theorem spec_l05Round.tab13 : rtab .any (opsOf Try.f145 13) = spec_l05Round.T13 := by kernel_rfl
theorem spec_l05Round.bits13 : waitsOk spec_l05Round.T13.2 spec_l05Round.B13 = true := by kernel_rfl
def spec_l05Round.T25 : Bool × List (List Nat × List Nat) := (true, [([], []), ([], []), ([], []), ([1, 2], [1, 2]), ([3], [3]), ([], []), ([], []), ([5, 6], [5, 6]), ([7], [7]), ([4, 8], [4, 8]), ([9], [9]), ([0, 10], [0, 10]), ([11, 11, 0, 1, 2, 3, 4, 5, 6, 7, 8, 9, 10, 11], [0, 11])])
def spec_l05Round.B25 : List Nat := [0, 0, 0, 6, 14, 0, 0, 96, 224, 510, 1022, 2047, 4095]
theorem spec_l05Round.tab25 : rtab .any (opsOf Try.f145 25) = spec_l05Round.T25 := by kernel_rfl
theorem spec_l05Round.bits25 : waitsOk spec_l05Round.T25.2 spec_l05Round.B25 = true := by kernel_rfl
theorem spec_l05Round.calls (k : Nat) (A0 : Option Addr) (c0 : Nat) (l0 : List Int) (A1 : Option Addr) (c1 : Nat) (l1 : List Int) (a2 : ByteArray) (r : List Int) (w : World) (hr0 : Kd.C (Kd.int .u32) w A0 l0.length l0) (hc0 : l0.length ≤ c0) (hr1 : Kd.C (Kd.int .u32) w A1 l1.length l1) (hc1 : l1.length ≤ c1) (h : spec_l05Round.f k l0 l1 a2 = some r) :
  Calls Try.prog 145 #[.slice A0 l0.length c0, .slice A1 l1.length c1, .string a2] w fun e w' => ∃ v0_ : Value, e = .returned (v0_) ∧ Kd.R (Kd.int .u32) 142 w' w.heap.size (fun _ => True) v0_ r ∧ Below w.heap.size w w' := by
 have HR0 := Aside0.mk hr0
 have HC0 := Aside0.mk hc0
 clear hr0 hc0
 have HR1 := Aside0.mk hr1
 have HC1 := Aside0.mk hc1
 clear hr1 hc1
 have HB := Aside0.mk (Below.refl w.heap.size w)
 delta spec_l05Round.f at h
 have H := h
 clear h
 obtain ⟨t165, A4, H⟩ := bN_ H
 have H' := Aside0.mk H
 clear H
 go_enter Try.func145, Try.ntmps145
 go_wp2_with (first | ((with_reducible refine gate_callee (f := 143) rfl ?_); refine goesL_ (some 20) rfl rfl Try.func143 (by kernel_rfl) rfl #[.string a2] rfl aM_ ?_; (with_reducible refine (spec_l05Words.calls k a2 t165 _ A4.out).mono ?_); rintro e w5 ⟨v166, rfl, ho0, hb⟩; refine ⟨_, rfl, ?_⟩; have n_ := b_ (Kd.R_lower ho0 (below_size (hB_))) <| c_ (below_step (hB_) hb); clear HB; obtain ⟨HO167, HB⟩ := n_; (try clear ho0)))
 go_loopg [7, 8] k (fun kq v7 v8 w' => ∃ (x7_1 : List Int) (x8_1 : Int), v8 = .int .i64 x8_1 ∧ Aside0 (spec_l05Round.l0 kq l0 l1 x7_1 x8_1 = some r) ∧ Aside0 (kq ≤ k) ∧ Aside0 (Kd.R (Kd.int .u32) 142 w' w.heap.size (fun _ => True) v7 x7_1) ∧ Aside0 (Below w.heap.size w w'))
 case atStart => exact ⟨(t165), (16), (by first | rfl | (simp; done) | (simp [*]; done)), H', ⟨Nat.le_refl _⟩, ⟨rR_ HO167.out⟩, ⟨hB_⟩⟩
 case round =>
  clear H'
  obtain ⟨x7_1, x8_1, rfl, HA, HK1, HO_7, HB⟩ := hrel
  cases gk with
  | zero => exact absurd HA.out (by simp [spec_l05Round.l0])
  | succ k1 =>
   have H := HA.out
   clear HA
   simp only [spec_l05Round.l0] at H
   by_cases c6 : x8_1 < 64
   ·rw [if_pos c6] at H
    have c6b0 := decide_eq_true c6
    clear c6
    obtain ⟨ji7, hji7⟩ : ∃ j_ : Int, (wrap64 (x8_1 - 2)) = j_ := ⟨_, rfl⟩
    first | rw [hji7] at H | simp only [hji7] at H
    have hji7w : (IntKind.i64.wrap (x8_1 - 2)) = ji7 := (i64_w _).trans hji7
    obtain ⟨c8b0, H⟩ := iD_ H
    obtain ⟨c9b0, H⟩ := iD_ H
    obtain ⟨t169, A10, H⟩ := bN_ H
    obtain ⟨ji11, hji11⟩ : ∃ j_ : Int, (wrap64 (x8_1 - 7)) = j_ := ⟨_, rfl⟩
    first | rw [hji11] at H | simp only [hji11] at H
    (try rw [hji11] at A10)
    have hji11w : (IntKind.i64.wrap (x8_1 - 7)) = ji11 := (i64_w _).trans hji11
    obtain ⟨c12b0, H⟩ := iD_ H
    obtain ⟨c13b0, H⟩ := iD_ H
    obtain ⟨ji14, hji14⟩ : ∃ j_ : Int, (wrap64 (x8_1 - 15)) = j_ := ⟨_, rfl⟩
    first | rw [hji14] at H | simp only [hji14] at H
    (try rw [hji14] at A10)
    have hji14w : (IntKind.i64.wrap (x8_1 - 15)) = ji14 := (i64_w _).trans hji14
    obtain ⟨c15b0, H⟩ := iD_ H
    obtain ⟨c16b0, H⟩ := iD_ H
    obtain ⟨t172, A17, H⟩ := bN_ H
    obtain ⟨ji18, hji18⟩ : ∃ j_ : Int, (wrap64 (x8_1 - 16)) = j_ := ⟨_, rfl⟩
    first | rw [hji18] at H | simp only [hji18] at H
    (try rw [hji18] at A10)
    (try rw [hji18] at A17)
    have hji18w : (IntKind.i64.wrap (x8_1 - 16)) = ji18 := (i64_w _).trans hji18
    obtain ⟨c19b0, H⟩ := iD_ H
    obtain ⟨c20b0, H⟩ := iD_ H
    obtain ⟨c21, H⟩ := iN_ H
    have LMc21 := Aside0.mk c21
    clear c21
    obtain ⟨y174, hy174⟩ : ∃ y_ : List Int, y_ = (x7_1 ++ [(((((t169 + (rd x7_1 (ji11))) % 4294967296) + t172) % 4294967296) + (rd x7_1 (ji18))) % 4294967296]) := ⟨_, rfl⟩
    first | replace H := yb_ hy174 H | rw [← hy174] at H
    have Ny174 := Aside0.mk hy174
    clear hy174
    have H' := Aside0.mk H
    clear H
    try go_wp2
    have n_ := b_ (Kd.R_drew HO_7.out) <| c_ (below_drew1 HB.out)
    clear HO_7 HB
    obtain ⟨HO_7, HB⟩ := n_
    obtain ⟨Ao23, co23, eo23⟩ := Kd.R_slice HO_7.out
    (first | subst eo23 | (injection eo23 with f1_ f2_ f3_; have f4_ := f1_.symm; have f5_ := f3_.symm; clear f1_ f2_ f3_; subst f4_; subst f5_))
    have p168 : 0 ≤ ((ji7) : Int) := of_decide_eq_true (by first | (with_reducible assumption) | assumption)
    have q168 : (ji7) < (x7_1.length : Int) := of_decide_eq_true (by first | (with_reducible assumption) | assumption)
    obtain ⟨ad168, e168, hx168_0⟩ := Kd.at_int (Kd.R_reads' HO_7.out).2.2 (ji7) p168 q168
    cases e168
    replace p168 := eq_true p168
    replace q168 := eq_true q168
    have p170 : 0 ≤ ((ji11) : Int) := of_decide_eq_true (by first | (with_reducible assumption) | assumption)
    have q170 : (ji11) < (x7_1.length : Int) := of_decide_eq_true (by first | (with_reducible assumption) | assumption)
    obtain ⟨ad170, e170, hx170_0⟩ := Kd.at_int (Kd.R_reads' HO_7.out).2.2 (ji11) p170 q170
    obtain rfl : ad168 = ad170 := (by injection e170)
    replace p170 := eq_true p170
    replace q170 := eq_true q170
    have p171 : 0 ≤ ((ji14) : Int) := of_decide_eq_true (by first | (with_reducible assumption) | assumption)
    have q171 : (ji14) < (x7_1.length : Int) := of_decide_eq_true (by first | (with_reducible assumption) | assumption)
    obtain ⟨ad171, e171, hx171_0⟩ := Kd.at_int (Kd.R_reads' HO_7.out).2.2 (ji14) p171 q171
    obtain rfl : ad168 = ad171 := (by injection e171)
    replace p171 := eq_true p171
    replace q171 := eq_true q171
    have p173 : 0 ≤ ((ji18) : Int) := of_decide_eq_true (by first | (with_reducible assumption) | assumption)
    have q173 : (ji18) < (x7_1.length : Int) := of_decide_eq_true (by first | (with_reducible assumption) | assumption)
    obtain ⟨ad173, e173, hx173_0⟩ := Kd.at_int (Kd.R_reads' HO_7.out).2.2 (ji18) p173 q173
    obtain rfl : ad168 = ad173 := (by injection e173)
    replace p173 := eq_true p173
    replace q173 := eq_true q173
    refine start_ (n := 29) (S := fun w' => w'.cell? (ad168.add ((ji7)).toNat) = some (.int .u32 (rd x7_1 (ji7))) ∧ w'.cell? (ad168.add ((ji11)).toNat) = some (.int .u32 (rd x7_1 (ji11))) ∧ w'.cell? (ad168.add ((ji14)).toNat) = some (.int .u32 (rd x7_1 (ji14))) ∧ w'.cell? (ad168.add ((ji18)).toNat) = some (.int .u32 (rd x7_1 (ji18)))) (ds := [26, 27]) (bb_ 29 0) (by kernel_rfl) rfl rfl ⟨hx168_0, hx170_0, hx171_0, hx173_0⟩ (fun hHeld => ?_); refine with_tabW spec_l05Round.tab5 spec_l05Round.bits5 (fun HT_ HW_ => ?_)
    generalize wr.drew = w22 at HO_7 HB hx168_0 hx170_0 hx171_0 hx173_0 hHeld ⊢
    refine pS_ 0 25 (bb_ 29 1) HT_.out ?_
    refine pS_ 1 26 (bb_ 29 3) HT_.out ?_
    refine pS_ 2 27 (bb_ 29 7) HT_.out ?_
    refine pS_ 3 28 (bb_ 29 15) HT_.out ?_
    refine pS_ 4 29 (bb_ 29 31) HT_.out ?_
    refine pS_ 7 32 (bb_ 29 159) HT_.out ?_
    refine pS_ 8 33 (bb_ 29 415) HT_.out ?_
    refine pS_ 9 34 (bb_ 29 927) HT_.out ?_
    refine pS_ 10 35 (bb_ 29 1951) HT_.out ?_
    refine pS_ 13 38 (bb_ 29 10143) HT_.out ?_
    refine pS_ 14 39 (bb_ 29 26527) HT_.out ?_
    refine pS_ 15 40 (bb_ 29 59295) HT_.out ?_
    refine pS_ 16 41 (bb_ 29 124831) HT_.out ?_
    refine pS_ 20 45 (bb_ 29 1173407) HT_.out ?_
    refine pS_ 21 46 (bb_ 29 3270559) HT_.out ?_
    refine pS_ 22 47 (bb_ 29 7464863) HT_.out ?_
    refine pS_ 23 48 (bb_ 29 15853471) HT_.out ?_
    refine tS_ 5 30 (bb_ 29 15853503) (take_ofW HT_.out HW_.out (by kernel_rfl)) hHeld ?_
    refine tS_ 11 36 (bb_ 29 15855551) (take_ofW HT_.out HW_.out (by kernel_rfl)) hHeld ?_
    refine tS_ 17 42 (bb_ 29 15986623) (take_ofW HT_.out HW_.out (by kernel_rfl)) hHeld ?_
    refine tS_ 24 49 (bb_ 29 32763839) (take_ofW HT_.out HW_.out (by kernel_rfl)) hHeld ?_
    refine one_ (i := 6) (N := some 31) (bb_ 29 32763903) rfl rfl (one_of HT_.out (by kernel_rfl)) (by decide) (fun K hK => ?_)
    refine goes_ Try.func149 (by kernel_rfl) rfl #[.int .u32 (rd x7_1 (ji7)), .int .u32 131072, .int .u32 524288, .int .u32 1024, .bool true] (by rfl) rfl rfl (by (try simp only [List.map_toArray, List.map_cons, List.map_nil]); first | done | (simp only [hji7]; rfl) | rfl | (simp only [List.length_drop, List.length_take]; rfl)) ?_
    with_reducible refine (spec_l05S.calls (rd x7_1 (ji7)) 131072 524288 1024 true t169 _ A10.out).mono ?_
    rintro e w' ⟨rfl, ⟨nd, rfl⟩⟩
    refine ⟨_, rfl, ?_⟩
    refine hK.out _ _ ⟨hHeld.1, hHeld.2.1, hHeld.2.2.1, hHeld.2.2.2⟩ (fun hHeld => ?_)
    clear hK K
    refine norm_ (a' := ?_) ?_ ?_
    rotate_left
    ·show Act.put _ (some 31) _ = _
     simp only [Act.put, List.setIfInBounds_toArray, List.set_cons_zero, List.set_cons_succ, i64_w, i32_w]
     rfl
    refine pS_ 12 37 (bb_ 29 32767999) HT_.out ?_
    refine one_ (i := 18) (N := some 43) (bb_ 29 33030143) rfl rfl (one_of HT_.out (by kernel_rfl)) (by decide) (fun K hK => ?_)
    refine goes_ Try.func149 (by kernel_rfl) rfl #[.int .u32 (rd x7_1 (ji14)), .int .u32 128, .int .u32 262144, .int .u32 8, .bool true] (by rfl) rfl rfl (by (try simp only [List.map_toArray, List.map_cons, List.map_nil]); first | done | (simp only [hji14]; rfl) | rfl | (simp only [List.length_drop, List.length_take]; rfl)) ?_
    with_reducible refine (spec_l05S.calls (rd x7_1 (ji14)) 128 262144 8 true t172 _ A17.out).mono ?_
    rintro e w' ⟨rfl, ⟨nd, rfl⟩⟩
    refine ⟨_, rfl, ?_⟩
    refine hK.out _ _ ⟨hHeld.1, hHeld.2.1, hHeld.2.2.1, hHeld.2.2.2⟩ (fun hHeld => ?_)
    clear hK K
    refine norm_ (a' := ?_) ?_ ?_
    rotate_left
    ·show Act.put _ (some 43) _ = _
     simp only [Act.put, List.setIfInBounds_toArray, List.set_cons_zero, List.set_cons_succ, i64_w, i32_w]
     rfl
    refine pS_ 19 44 (bb_ 29 33554431) HT_.out ?_
    refine pS_ 25 50 (bb_ 29 67108863) HT_.out ?_
    refine last_ (i := 26) (N := some 51) (bb_ 29 134217727) rfl rfl (one_of HT_.out (by kernel_rfl)) (by decide) (fun K hK => ?_)
    refine value_ (w1 := ?_) (v := ?_) (by rfl) rfl ?_ ?_
    rotate_left 2
    ·go_simp
     constructor
     ·rfl
     ·rfl
    refine hK.out _ _ ?_
    clear hK K
    refine norm_ (a' := ?_) ?_ ?_
    rotate_left
    ·show Act.put _ (some 51) _ = _
     simp only [Act.put, List.setIfInBounds_toArray, List.set_cons_zero, List.set_cons_succ, i64_w, i32_w]
     rfl
    refine last_ (i := 27) (N := some 52) (bb_ 29 268435455) rfl rfl (one_of HT_.out (by kernel_rfl)) (by decide) (fun K hK => ?_)
    refine Kd.R_append_step (Kd.int .u32) (w0 := w) w.heap.size (by rfl) (.tmp 25) (.tmp 51) 137 142 (.int .u32 0) 4 rfl Try.underlying137 info142 rfl (by decide) (by omega) (.slice (some ad168) x7_1.length co23) x7_1 ((((((t169 + (rd x7_1 (ji11))) % 4294967296) + t172) % 4294967296) + (rd x7_1 (ji18))) % 4294967296) [.int .u32 ((((((t169 + (rd x7_1 (ji11))) % 4294967296) + t172) % 4294967296) + (rd x7_1 (ji18))) % 4294967296)] (fun _ => True) (fun _ => False) rfl rfl ?aP (fun _ hk => hk.elim) ?aF ?aO ?aB ?aS ?aL ?_
    (case aP => exact rfl)
    (case aB => exact (hB_))
    (case aF => exact (fun _ _ => trivial))
    (case aO => exact (rR_ HO_7.out))
    (case aS => exact (below_size (hB_)))
    (case aL => have := LMc21.out; omega)
    intro v175 w24 ho hb hg hat
    rw [← Ny174.out] at ho
    have n_ := b_ (hb) <| c_ (ho)
    clear HB HO_7
    obtain ⟨HB, HO176⟩ := n_
    clear ho hb hg hat
    refine hK.out _ _ ?_
    clear hK K
    refine norm_ (a' := ?_) ?_ ?_
    rotate_left
    ·show Act.put _ (some 52) _ = _
     simp only [Act.put, List.setIfInBounds_toArray, List.set_cons_zero, List.set_cons_succ, i64_w, i32_w]
     rfl
    refine pS_ 28 7 (bb_ 29 536870911) HT_.out ?_
    refine done_ (done_of HT_.out (by kernel_rfl)) ?_
    try go_wp2
    go_roundg k1
    case measure => have := HK1.out; omega
    case rel => exact ⟨(y174), (wrap64 (x8_1 + 1)), (by first | rfl | (simp; done) | (simp [*]; done)), H', ⟨by have := HK1.out; omega⟩, ⟨rR_ HO176.out⟩, ⟨hB_⟩⟩
   rw [if_neg c6] at H
   have c6b0 := decide_eq_false c6
   clear c6
   obtain ⟨y177, hy177⟩ : ∃ y_ : List Int, y_ = (([] : List Int)) := ⟨_, rfl⟩
   first | replace H := yb_ hy177 H | rw [← hy177] at H
   have Ny177 := Aside0.mk hy177
   clear hy177
   obtain ⟨c25, H⟩ := iN_ H
   have LMc25 := Aside0.mk c25
   clear c25
   obtain ⟨y180, hy180⟩ : ∃ y_ : List Int, y_ = (y177 ++ l0) := ⟨_, rfl⟩
   first | replace H := yb_ hy180 H | rw [← hy180] at H
   have Ny180 := Aside0.mk hy180
   clear hy180
   have H' := Aside0.mk H
   clear H
   go_wp2_with (first | ((with_reducible refine gate_dst (N := 53) rfl ?_); refine Kd.R_lit (Kd.int .u32) _ 142 ?hg (N := 53) ?hd (xs := ([] : List Int)) (inner := []) (ok := fun _ => True) (okp := fun _ => True) ?hr ?hp (fun _ hk => hk) trivial (Below.refl _ _) (Nat.le_refl _) (by simp) ?_; (case hd => rfl); (case hg => rfl); (case hr => first | (go_simp; done) | (go_simp; rfl)); (case hp => exact (Reps.none _ _)); intro v178 w26 ho27 hb hg_ hnew_; clear hg_ hnew_; (first | rw [← Ny177.out] at ho27 | (simp only [Int.reduceToNat] at ho27; rw [← Ny177.out] at ho27)); have n_ := b_ (Kd.R_elder' (rR_ HO_7.out) (Kd.R_base ho27) hb) <| b_ (Kd.R_lower (Kd.R_new' ho27 (Kd.R_lt (rR_ HO_7.out))) (below_size (hB_))) <| c_ (below_step (hB_) hb); clear HO_7 HB; obtain ⟨HO_7, HO179, HB⟩ := n_; clear hb ho27) | ((with_reducible refine gate_builtin (b := .append) (xs := #[.tmp 53, .tmp 54]) rfl ?_); at_builtin; refine Kd.R_append_rows (Kd.int .u32) (w0 := w) w.heap.size rfl (.tmp 53) (.tmp 54) 137 142 (.int .u32 0) 4 rfl Try.underlying137 info142 rfl (by decide) (by omega) v178 y177 l0 _ _ _ (fun k_ => some k_ ≠ (u7 : Value).ownBlock) (fun _ => False) rfl rfl ?aO ?aR (fun _ _ h => h) (fun _ h => h.elim) ?aF ?aB ?aS ?aL ?_; (case aR => exact cR_ (Kd.C_below HR0.out HB.out)); (case aB => exact (hB_)); (case aF => exact (fun k_ hk => Kd.fresh' (Kd.R_lt (rR_ HO_7.out)) k_ hk)); (case aO => exact (by refine kR_ ?_; exact Kd.R_mono HO179.out (fun _ hk => hk.2))); (case aS => exact (below_size (hB_))); (case aL => have := LMc25.out; omega); intro v181 w28 ho hb hg hat; rw [← Ny180.out] at ho; have n_ := b_ (Kd.R_after (ok := (fun _ => True)) (rR_ HO_7.out) hg hat) <| b_ (hb) <| c_ (ho); clear HO179 HO_7 HB; obtain ⟨HO_7, HB, HO182⟩ := n_; clear ho hb hg hat))
   go_loopg [10] k1 (fun kq v10 w' => ∃ (x9_2 : List Int) (x10_2 : Int), v10 = .int .i64 x10_2 ∧ Aside0 (spec_l05Round.l1 kq l0 l1 x7_1 x9_2 x10_2 = some r) ∧ Aside0 (kq ≤ k1) ∧ Aside0 (Kd.R (Kd.int .u32) 142 w' w.heap.size (fun k_ => some k_ ≠ (v181 : Value).ownBlock) u7 x7_1) ∧ Aside0 (Kd.R (Kd.int .u32) 142 w' w.heap.size (fun k_ => some k_ ≠ (u7 : Value).ownBlock) v181 x9_2) ∧ Aside0 (Below w.heap.size w w'))
   case atStart => exact ⟨(y180), (0), (by first | rfl | (simp; done) | (simp [*]; done)), H', ⟨Nat.le_refl _⟩, ⟨by refine kR_ ?_; exact Kd.R_mono HO_7.out (fun _ hk => hk.2)⟩, ⟨rR_ HO182.out⟩, ⟨hB_⟩⟩
   case round =>
    clear H'
    obtain ⟨x9_2, x10_2, rfl, HA, HK2, HO_7, HO_9, HB⟩ := hrel
    cases gk with
    | zero => exact absurd HA.out (by simp [spec_l05Round.l1])
    | succ k2 =>
     have H := HA.out
     clear HA
     simp only [spec_l05Round.l1] at H
     by_cases c29 : x10_2 < 64
     rotate_left
     ·rw [if_neg c29] at H
      have c29b0 := decide_eq_false c29
      clear c29
      obtain ⟨y203, hy203⟩ : ∃ y_ : List Int, y_ = (([] : List Int)) := ⟨_, rfl⟩
      first | replace H := yb_ hy203 H | rw [← hy203] at H
      have Ny203 := Aside0.mk hy203
      clear hy203
      have H' := Aside0.mk H
      clear H
      go_wp2_with (first | ((with_reducible refine gate_dst (N := 146) rfl ?_); refine Kd.R_lit (Kd.int .u32) _ 142 ?hg (N := 146) ?hd (xs := ([] : List Int)) (inner := []) (ok := fun _ => True) (okp := fun _ => True) ?hr ?hp (fun _ hk => hk) trivial (Below.refl _ _) (Nat.le_refl _) (by simp) ?_; (case hd => rfl); (case hg => rfl); (case hr => first | (go_simp; done) | (go_simp; rfl)); (case hp => exact (Reps.none _ _)); intro v204 w64 ho65 hb hg_ hnew_; clear hg_ hnew_; (first | rw [← Ny203.out] at ho65 | (simp only [Int.reduceToNat] at ho65; rw [← Ny203.out] at ho65)); have n_ := b_ (Kd.R_elder' (rR_ HO_7.out) (Kd.R_base ho65) hb) <| b_ (Kd.R_elder' (rR_ HO_9.out) (Kd.R_base ho65) hb) <| b_ (Kd.R_lower (Kd.R_new' (Kd.R_new' ho65 (Kd.R_lt (rR_ HO_7.out))) (Kd.R_lt (rR_ HO_9.out))) (below_size (hB_))) <| c_ (below_step (hB_) hb); clear HO_7 HO_9 HB; obtain ⟨HO_7, HO_9, HO205, HB⟩ := n_; clear hb ho65))
      go_loopg [17, 18] k2 (fun kq v17 v18 w' => ∃ (x17_3 : List Int) (x18_3 : Int), v18 = .int .i64 x18_3 ∧ Aside0 (spec_l05Round.l3 kq l0 x9_2 x17_3 x18_3 = some r) ∧ Aside0 (kq ≤ k2) ∧ Aside0 (Kd.R (Kd.int .u32) 142 w' w.heap.size (fun k_ => some k_ ≠ (v17 : Value).ownBlock) v181 x9_2) ∧ Aside0 (Kd.R (Kd.int .u32) 142 w' w.heap.size (fun k_ => some k_ ≠ (v181 : Value).ownBlock) v17 x17_3) ∧ Aside0 (Below w.heap.size w w'))
      case atStart => exact ⟨(y203), (0), (by first | rfl | (simp; done) | (simp [*]; done)), H', ⟨Nat.le_refl _⟩, ⟨by refine kR_ ?_; exact Kd.R_mono HO_9.out (fun _ hk => hk.2)⟩, ⟨by refine kR_ ?_; exact Kd.R_mono HO205.out (fun _ hk => hk.2)⟩, ⟨hB_⟩⟩
      case round =>
       clear H'
       obtain ⟨x17_3, x18_3, rfl, HA, HK3, HO_9, HO_17, HB⟩ := hrel
       cases gk with
       | zero => exact absurd HA.out (by simp [spec_l05Round.l3])
       | succ k3 =>
        have H := HA.out
        clear HA
        simp only [spec_l05Round.l3] at H
        by_cases c66 : x18_3 < 8
        rotate_left
        ·rw [if_neg c66] at H
         have c66b0 := decide_eq_false c66
         clear c66
         obtain rfl := Option.some.inj H
         go_wp2
         go_ret
         exact ⟨_, by first | rfl | (simp [errW_none, errW_some] <;> rfl) | (simp [*, errW_none, errW_some] <;> rfl), by refine kR_ ?_; exact Kd.R_mono HO_17.out (fun _ hk => trivial), hB_⟩
        rw [if_pos c66] at H
        have c66b0 := decide_eq_true c66
        clear c66
        obtain ⟨c67b0, H⟩ := iD_ H
        obtain ⟨c68b0, H⟩ := iD_ H
        obtain ⟨c69b0, H⟩ := iD_ H
        obtain ⟨c70, H⟩ := iN_ H
        have LMc70 := Aside0.mk c70
        clear c70
        obtain ⟨y208, hy208⟩ : ∃ y_ : List Int, y_ = (x17_3 ++ [((rd l0 x18_3) + (rd x9_2 x18_3)) % 4294967296]) := ⟨_, rfl⟩
        first | replace H := yb_ hy208 H | rw [← hy208] at H
        have Ny208 := Aside0.mk hy208
        clear hy208
        have H' := Aside0.mk H
        clear H
        try go_wp2
        have n_ := b_ (Kd.R_drew HO_9.out) <| b_ (Kd.R_drew HO_17.out) <| c_ (below_drew1 HB.out)
        clear HO_9 HO_17 HB
        obtain ⟨HO_9, HO_17, HB⟩ := n_
        have p206 : 0 ≤ (x18_3 : Int) := of_decide_eq_true (by first | (with_reducible assumption) | assumption)
        have q206 : x18_3 < (l0.length : Int) := of_decide_eq_true (by first | (with_reducible assumption) | assumption)
        obtain ⟨ad206, e206, hx206_0⟩ := Kd.at_int HR0.out x18_3 p206 q206
        have hw206_0 := hx206_0
        cases e206
        replace hx206_0 := (HB.out.cell (World.block_lt_of_cell? w _ hx206_0)).trans hx206_0
        replace p206 := eq_true p206
        replace q206 := eq_true q206
        obtain ⟨Ao72, co72, eo72⟩ := Kd.R_slice HO_9.out
        (first | subst eo72 | (injection eo72 with f1_ f2_ f3_; have f4_ := f1_.symm; have f5_ := f3_.symm; clear f1_ f2_ f3_; subst f4_; subst f5_))
        have p207 : 0 ≤ (x18_3 : Int) := of_decide_eq_true (by first | (with_reducible assumption) | assumption)
        have q207 : x18_3 < (x9_2.length : Int) := of_decide_eq_true (by first | (with_reducible assumption) | assumption)
        obtain ⟨ad207, e207, hx207_0⟩ := Kd.at_int (Kd.R_reads' HO_9.out).2.2 x18_3 p207 q207
        cases e207
        replace p207 := eq_true p207
        replace q207 := eq_true q207
        refine start_ (n := 13) (S := fun w' => w'.cell? (ad206.add (x18_3).toNat) = some (.int .u32 (rd l0 x18_3)) ∧ w'.cell? (ad207.add (x18_3).toNat) = some (.int .u32 (rd x9_2 x18_3))) (ds := [10, 11]) (bb_ 13 0) (by kernel_rfl) rfl rfl ⟨((HB.out.cell (World.block_lt_of_cell? w _ hw206_0)).trans hw206_0), hx207_0⟩ (fun hHeld => ?_); refine with_tabW spec_l05Round.tab25 spec_l05Round.bits25 (fun HT_ HW_ => ?_)
        generalize wr.drew = w71 at HO_9 HO_17 HB hx206_0 hx207_0 hHeld ⊢
        refine pS_ 0 151 (bb_ 13 1) HT_.out ?_
        refine pS_ 1 152 (bb_ 13 3) HT_.out ?_
        refine pS_ 2 153 (bb_ 13 7) HT_.out ?_
        refine pS_ 3 154 (bb_ 13 15) HT_.out ?_
        refine pS_ 5 156 (bb_ 13 47) HT_.out ?_
        refine pS_ 6 157 (bb_ 13 111) HT_.out ?_
        refine pS_ 7 158 (bb_ 13 239) HT_.out ?_
        refine tS_ 4 155 (bb_ 13 255) (take_ofW HT_.out HW_.out (by kernel_rfl)) hHeld ?_
        refine tS_ 8 159 (bb_ 13 511) (take_ofW HT_.out HW_.out (by kernel_rfl)) hHeld ?_
        refine pS_ 9 160 (bb_ 13 1023) HT_.out ?_
        refine last_ (i := 10) (N := some 161) (bb_ 13 2047) rfl rfl (one_of HT_.out (by kernel_rfl)) (by decide) (fun K hK => ?_)
        refine value_ (w1 := ?_) (v := ?_) (by rfl) rfl ?_ ?_
        rotate_left 2
        ·go_simp
         constructor
         ·rfl
         ·rfl
        refine hK.out _ _ ?_
        clear hK K
        refine norm_ (a' := ?_) ?_ ?_
        rotate_left
        ·show Act.put _ (some 161) _ = _
         simp only [Act.put, List.setIfInBounds_toArray, List.set_cons_zero, List.set_cons_succ, i64_w, i32_w]
         rfl
        refine last_ (i := 11) (N := some 162) (bb_ 13 4095) rfl rfl (one_of HT_.out (by kernel_rfl)) (by decide) (fun K hK => ?_)
        refine Kd.R_append_step (Kd.int .u32) (w0 := w) w.heap.size (by rfl) (.tmp 151) (.tmp 161) 137 142 (.int .u32 0) 4 rfl Try.underlying137 info142 rfl (by decide) (by omega) u17 x17_3 (((rd l0 x18_3) + (rd x9_2 x18_3)) % 4294967296) [.int .u32 (((rd l0 x18_3) + (rd x9_2 x18_3)) % 4294967296)] (fun k_ => some k_ ≠ (.slice (some ad207) x9_2.length co72 : Value).ownBlock) (fun _ => False) rfl rfl ?aP (fun _ hk => hk.elim) ?aF ?aO ?aB ?aS ?aL ?_
        (case aP => exact rfl)
        (case aB => exact (hB_))
        (case aF => exact (fun k_ hk => Kd.fresh' (Kd.R_lt (rR_ HO_9.out)) k_ hk))
        (case aO => exact (rR_ HO_17.out))
        (case aS => exact (below_size (hB_)))
        (case aL => have := LMc70.out; omega)
        intro v209 w73 ho hb hg hat
        rw [← Ny208.out] at ho
        have n_ := b_ (Kd.R_after (ok := (fun _ => True)) (by refine kR_ ?_; exact Kd.R_mono HO_9.out (fun _ hk => ⟨trivial, hk⟩)) hg hat) <| b_ (hb) <| c_ (ho)
        clear HO_9 HB HO_17
        obtain ⟨HO_9, HB, HO210⟩ := n_
        clear ho hb hg hat
        refine hK.out _ _ ?_
        clear hK K
        refine norm_ (a' := ?_) ?_ ?_
        rotate_left
        ·show Act.put _ (some 162) _ = _
         simp only [Act.put, List.setIfInBounds_toArray, List.set_cons_zero, List.set_cons_succ, i64_w, i32_w]
         rfl
        refine pS_ 12 17 (bb_ 13 8191) HT_.out ?_
        refine done_ (done_of HT_.out (by kernel_rfl)) ?_
        try go_wp2
        go_roundg k3
        case measure => have := HK1.out; have := HK2.out; have := HK3.out; omega
        case rel => exact ⟨(y208), (wrap64 (x18_3 + 1)), (by first | rfl | (simp; done) | (simp [*]; done)), H', ⟨by have := HK1.out; have := HK2.out; have := HK3.out; omega⟩, ⟨by refine kR_ ?_; exact Kd.R_mono HO_9.out (fun _ hk => hk.2)⟩, ⟨rR_ HO210.out⟩, ⟨hB_⟩⟩
     rw [if_pos c29] at H
     have c29b0 := decide_eq_true c29
     clear c29
     obtain ⟨c30, H⟩ := iN_ H
     have c30b0 := decide_eq_true c30
     have c30b1 : decide (4 < x9_2.length) = true := decide_eq_true (by omega)
     clear c30
     obtain ⟨c31, H⟩ := iN_ H
     have c31b0 := decide_eq_true c31
     have c31b1 : decide (5 < x9_2.length) = true := decide_eq_true (by omega)
     clear c31
     obtain ⟨c32, H⟩ := iN_ H
     have c32b0 := decide_eq_true c32
     have c32b1 : decide (6 < x9_2.length) = true := decide_eq_true (by omega)
     clear c32
     obtain ⟨c33, H⟩ := iN_ H
     have c33b0 := decide_eq_true c33
     have c33b1 : decide (7 < x9_2.length) = true := decide_eq_true (by omega)
     clear c33
     obtain ⟨t187, A34, H⟩ := bN_ H
     obtain ⟨c35b0, H⟩ := iD_ H
     obtain ⟨c36b0, H⟩ := iD_ H
     obtain ⟨c37b0, H⟩ := iD_ H
     obtain ⟨c38, H⟩ := iN_ H
     have c38b0 := decide_eq_true c38
     have c38b1 : decide (0 < x9_2.length) = true := decide_eq_true (by omega)
     clear c38
     obtain ⟨c39, H⟩ := iN_ H
     have c39b0 := decide_eq_true c39
     have c39b1 : decide (1 < x9_2.length) = true := decide_eq_true (by omega)
     clear c39
     obtain ⟨c40, H⟩ := iN_ H
     have c40b0 := decide_eq_true c40
     have c40b1 : decide (2 < x9_2.length) = true := decide_eq_true (by omega)
     clear c40
     obtain ⟨t197, A41, H⟩ := bN_ H
     have H' := Aside0.mk H
     clear H
     obtain ⟨Ao42, co42, eo42⟩ := Kd.R_slice HO_9.out
     subst eo42
     have p183 : 0 ≤ (4 : Int) := (by omega)
     have q183 : 4 < (x9_2.length : Int) := of_decide_eq_true (by first | (with_reducible assumption) | assumption)
     obtain ⟨ad183, e183, hx183_0⟩ := Kd.at_int (Kd.R_reads' HO_9.out).2.2 4 p183 q183
     cases e183
     (try simp only [show (4 : Int).toNat = 4 from rfl, Nat.reduceMul, Nat.reduceEqDiff, Go.Addr.add, ↓reduceIte] at hx183_0)
     have qi183 : (4 < x9_2.length) = True := eq_true (by omega)
     (try rw [show ((4 : Int)).toNat = 4 from rfl] at hx183_0)
     replace p183 := eq_true p183
     replace q183 := eq_true q183
     try go_wp2
     have n_ := b_ (Kd.R_drew HO_7.out) <| b_ (Kd.R_drew HO_9.out) <| c_ (below_drew1 HB.out)
     clear HO_7 HO_9 HB
     obtain ⟨HO_7, HO_9, HB⟩ := n_
     have p184 : 0 ≤ (5 : Int) := (by omega)
     have q184 : 5 < (x9_2.length : Int) := of_decide_eq_true (by first | (with_reducible assumption) | assumption)
     obtain ⟨ad184, e184, hx184_0⟩ := Kd.at_int (Kd.R_reads' HO_9.out).2.2 5 p184 q184
     obtain rfl : ad183 = ad184 := (by injection e184)
     (try simp only [show (5 : Int).toNat = 5 from rfl, Nat.reduceMul, Nat.reduceEqDiff, Go.Addr.add, ↓reduceIte] at hx184_0)
     have qi184 : (5 < x9_2.length) = True := eq_true (by omega)
     (try rw [show ((5 : Int)).toNat = 5 from rfl] at hx184_0)
     replace p184 := eq_true p184
     replace q184 := eq_true q184
     have p185 : 0 ≤ (6 : Int) := (by omega)
     have q185 : 6 < (x9_2.length : Int) := of_decide_eq_true (by first | (with_reducible assumption) | assumption)
     obtain ⟨ad185, e185, hx185_0⟩ := Kd.at_int (Kd.R_reads' HO_9.out).2.2 6 p185 q185
     obtain rfl : ad183 = ad185 := (by injection e185)
     (try simp only [show (6 : Int).toNat = 6 from rfl, Nat.reduceMul, Nat.reduceEqDiff, Go.Addr.add, ↓reduceIte] at hx185_0)
     have qi185 : (6 < x9_2.length) = True := eq_true (by omega)
     (try rw [show ((6 : Int)).toNat = 6 from rfl] at hx185_0)
     replace p185 := eq_true p185
     replace q185 := eq_true q185
     refine start_ (n := 13) (S := fun w' => w'.cell? ⟨ad183.block, ad183.off + 5, none⟩ = some (.int .u32 (rd x9_2 5)) ∧ w'.cell? ⟨ad183.block, ad183.off + 6, none⟩ = some (.int .u32 (rd x9_2 6))) (ds := []) (bb_ 13 0) (by kernel_rfl) rfl rfl ⟨hx184_0, hx185_0⟩ (fun hHeld => ?_); refine with_tabW spec_l05Round.tab11 spec_l05Round.bits11 (fun HT_ HW_ => ?_)
     generalize wr.drew = w43 at HO_7 HO_9 HB hx184_0 hx185_0 hHeld ⊢
     refine pS_ 0 63 (bb_ 13 1) HT_.out ?_
     refine pS_ 1 64 (bb_ 13 3) HT_.out ?_
     refine pS_ 2 65 (bb_ 13 7) HT_.out ?_
     refine pS_ 5 68 (bb_ 13 39) HT_.out ?_
     refine pS_ 6 69 (bb_ 13 103) HT_.out ?_
     refine pS_ 7 70 (bb_ 13 231) HT_.out ?_
     refine pS_ 8 71 (bb_ 13 487) HT_.out ?_
     refine tS_ 3 66 (bb_ 13 495) (take_ofW HT_.out HW_.out (by kernel_rfl)) hHeld ?_
     refine pS_ 4 67 (bb_ 13 511) HT_.out ?_
     refine tS_ 9 72 (bb_ 13 1023) (take_ofW HT_.out HW_.out (by kernel_rfl)) hHeld ?_
     refine pS_ 10 73 (bb_ 13 2047) HT_.out ?_
     refine pS_ 11 74 (bb_ 13 4095) HT_.out ?_
     refine pS_ 12 12 (bb_ 13 8191) HT_.out ?_
     refine done_ (done_of HT_.out (by kernel_rfl)) ?_
     try go_wp2
     have n_ := b_ (Kd.R_drew HO_7.out) <| b_ (Kd.R_drew HO_9.out) <| c_ (below_drew1 HB.out)
     clear HO_7 HO_9 HB
     obtain ⟨HO_7, HO_9, HB⟩ := n_
     have p186 : 0 ≤ (7 : Int) := (by omega)
     have q186 : 7 < (x9_2.length : Int) := of_decide_eq_true (by first | (with_reducible assumption) | assumption)
     obtain ⟨ad186, e186, hx186_0⟩ := Kd.at_int (Kd.R_reads' HO_9.out).2.2 7 p186 q186
     obtain rfl : ad183 = ad186 := (by injection e186)
     (try simp only [show (7 : Int).toNat = 7 from rfl, Nat.reduceMul, Nat.reduceEqDiff, Go.Addr.add, ↓reduceIte] at hx186_0)
     have qi186 : (7 < x9_2.length) = True := eq_true (by omega)
     (try rw [show ((7 : Int)).toNat = 7 from rfl] at hx186_0)
     replace p186 := eq_true p186
     replace q186 := eq_true q186
     have p188 : 0 ≤ (x10_2 : Int) := of_decide_eq_true (by first | (with_reducible assumption) | assumption)
     have q188 : x10_2 < (l1.length : Int) := of_decide_eq_true (by first | (with_reducible assumption) | assumption)
     obtain ⟨ad188, e188, hx188_0⟩ := Kd.at_int HR1.out x10_2 p188 q188
     have hw188_0 := hx188_0
     cases e188
     replace hx188_0 := (HB.out.cell (World.block_lt_of_cell? w _ hx188_0)).trans hx188_0
     replace p188 := eq_true p188
     replace q188 := eq_true q188
     obtain ⟨Ao45, co45, eo45⟩ := Kd.R_slice HO_7.out
     (first | subst eo45 | (injection eo45 with f1_ f2_ f3_; have f4_ := f1_.symm; have f5_ := f3_.symm; clear f1_ f2_ f3_; subst f4_; subst f5_))
     have p189 : 0 ≤ (x10_2 : Int) := of_decide_eq_true (by first | (with_reducible assumption) | assumption)
     have q189 : x10_2 < (x7_1.length : Int) := of_decide_eq_true (by first | (with_reducible assumption) | assumption)
     obtain ⟨ad189, e189, hx189_0⟩ := Kd.at_int (Kd.R_reads' HO_7.out).2.2 x10_2 p189 q189
     cases e189
     replace p189 := eq_true p189
     replace q189 := eq_true q189
     refine start_ (n := 19) (S := fun w' => w'.cell? ⟨ad183.block, ad183.off + 7, none⟩ = some (.int .u32 (rd x9_2 7)) ∧ w'.cell? (ad188.add (x10_2).toNat) = some (.int .u32 (rd l1 x10_2)) ∧ w'.cell? (ad189.add (x10_2).toNat) = some (.int .u32 (rd x7_1 x10_2))) (ds := []) (bb_ 19 0) (by kernel_rfl) rfl rfl ⟨hx186_0, ((HB.out.cell (World.block_lt_of_cell? w _ hw188_0)).trans hw188_0), hx189_0⟩ (fun hHeld => ?_); refine with_tabW spec_l05Round.tab12 spec_l05Round.bits12 (fun HT_ HW_ => ?_)
     generalize w43.drew = w44 at HO_7 HO_9 HB hx186_0 hx188_0 hx189_0 hHeld ⊢
     refine pS_ 0 75 (bb_ 19 1) HT_.out ?_
     refine pS_ 1 76 (bb_ 19 3) HT_.out ?_
     refine pS_ 3 78 (bb_ 19 11) HT_.out ?_
     refine pS_ 6 81 (bb_ 19 75) HT_.out ?_
     refine pS_ 8 83 (bb_ 19 331) HT_.out ?_
     refine pS_ 9 84 (bb_ 19 843) HT_.out ?_
     refine pS_ 10 85 (bb_ 19 1867) HT_.out ?_
     refine pS_ 13 88 (bb_ 19 10059) HT_.out ?_
     refine pS_ 14 89 (bb_ 19 26443) HT_.out ?_
     refine pS_ 15 90 (bb_ 19 59211) HT_.out ?_
     refine tS_ 2 77 (bb_ 19 59215) (take_ofW HT_.out HW_.out (by kernel_rfl)) hHeld ?_
     refine tS_ 11 86 (bb_ 19 61263) (take_ofW HT_.out HW_.out (by kernel_rfl)) hHeld ?_
     refine tS_ 16 91 (bb_ 19 126799) (take_ofW HT_.out HW_.out (by kernel_rfl)) hHeld ?_
     refine one_ (i := 4) (N := some 79) (bb_ 19 126815) rfl rfl (one_of HT_.out (by kernel_rfl)) (by decide) (fun K hK => ?_)
     refine goes_ Try.func149 (by kernel_rfl) rfl #[.int .u32 (rd x9_2 4), .int .u32 64, .int .u32 2048, .int .u32 33554432, .bool false] (by rfl) rfl rfl aM_ ?_
     with_reducible refine (spec_l05S.calls (rd x9_2 4) 64 2048 33554432 false t187 _ A34.out).mono ?_
     rintro e w' ⟨rfl, ⟨nd, rfl⟩⟩
     refine ⟨_, rfl, ?_⟩
     refine hK.out _ _ ⟨hHeld.1, ((HB.out.cell (World.block_lt_of_cell? w _ hw188_0)).trans hw188_0), hHeld.2.2⟩ (fun hHeld => ?_)
     clear hK K
     refine norm_ (a' := ?_) ?_ ?_
     rotate_left
     ·show Act.put _ (some 79) _ = _
      simp only [Act.put, List.setIfInBounds_toArray, List.set_cons_zero, List.set_cons_succ, i64_w, i32_w]
      rfl
     refine pS_ 5 80 (bb_ 19 126847) HT_.out ?_
     refine pS_ 7 82 (bb_ 19 126975) HT_.out ?_
     refine pS_ 12 87 (bb_ 19 131071) HT_.out ?_
     refine pS_ 17 92 (bb_ 19 262143) HT_.out ?_
     refine pS_ 18 13 (bb_ 19 524287) HT_.out ?_
     refine done_ (done_of HT_.out (by kernel_rfl)) ?_
     try go_wp2
     (try (rw [drewN_self w44]; generalize hq_ : World.drewN w44 _ = w44; have n_ := b_ (show Kd.R (Kd.int .u32) 142 w44 w.heap.size (fun k_ => some k_ ≠ (.slice (some ad183) x9_2.length co42 : Value).ownBlock) (.slice (some ad189) x7_1.length co45) x7_1 from by rw [← hq_]; exact (rR_ HO_7.out)) <| b_ (show Kd.R (Kd.int .u32) 142 w44 w.heap.size (fun k_ => some k_ ≠ (.slice (some ad189) x7_1.length co45 : Value).ownBlock) (.slice (some ad183) x9_2.length co42) x9_2 from by rw [← hq_]; exact (rR_ HO_9.out)) <| c_ (show Below w.heap.size w w44 from by rw [← hq_]; exact (hB_)); clear HO_7 HO_9 HB hq_; obtain ⟨HO_7, HO_9, HB⟩ := n_))
     have n_ := b_ (Kd.R_drew HO_7.out) <| b_ (Kd.R_drew HO_9.out) <| c_ (below_drew1 HB.out)
     clear HO_7 HO_9 HB
     obtain ⟨HO_7, HO_9, HB⟩ := n_
     have p190 : 0 ≤ (0 : Int) := (by omega)
     have q190 : 0 < (x9_2.length : Int) := of_decide_eq_true (by first | (with_reducible assumption) | assumption)
     obtain ⟨ad190, e190, hx190_0⟩ := Kd.at_int (Kd.R_reads' HO_9.out).2.2 0 p190 q190
     obtain rfl : ad183 = ad190 := (by injection e190)
     have qi190 : (0 < x9_2.length) = True := eq_true (by omega)
     (try rw [show ((0 : Int)).toNat = 0 from rfl] at hx190_0)
     (try rw [Addr.add_zero'] at hx190_0)
     replace p190 := eq_true p190
     replace q190 := eq_true q190
     have p191 : 0 ≤ (1 : Int) := (by omega)
     have q191 : 1 < (x9_2.length : Int) := of_decide_eq_true (by first | (with_reducible assumption) | assumption)
     obtain ⟨ad191, e191, hx191_0⟩ := Kd.at_int (Kd.R_reads' HO_9.out).2.2 1 p191 q191
     obtain rfl : ad183 = ad191 := (by injection e191)
     (try simp only [show (1 : Int).toNat = 1 from rfl, Nat.reduceMul, Nat.reduceEqDiff, Go.Addr.add, ↓reduceIte] at hx191_0)
     have qi191 : (1 < x9_2.length) = True := eq_true (by omega)
     (try rw [show ((1 : Int)).toNat = 1 from rfl] at hx191_0)
     replace p191 := eq_true p191
     replace q191 := eq_true q191
     have p192 : 0 ≤ (0 : Int) := (by omega)
     have q192 : 0 < (x9_2.length : Int) := of_decide_eq_true (by first | (with_reducible assumption) | assumption)
     obtain ⟨ad192, e192, hx192_0⟩ := Kd.at_int (Kd.R_reads' HO_9.out).2.2 0 p192 q192
     obtain rfl : ad183 = ad192 := (by injection e192)
     have qi192 : (0 < x9_2.length) = True := eq_true (by omega)
     (try rw [show ((0 : Int)).toNat = 0 from rfl] at hx192_0)
     (try rw [Addr.add_zero'] at hx192_0)
     replace p192 := eq_true p192
     replace q192 := eq_true q192
     have p193 : 0 ≤ (2 : Int) := (by omega)
     have q193 : 2 < (x9_2.length : Int) := of_decide_eq_true (by first | (with_reducible assumption) | assumption)
     obtain ⟨ad193, e193, hx193_0⟩ := Kd.at_int (Kd.R_reads' HO_9.out).2.2 2 p193 q193
     obtain rfl : ad183 = ad193 := (by injection e193)
     (try simp only [show (2 : Int).toNat = 2 from rfl, Nat.reduceMul, Nat.reduceEqDiff, Go.Addr.add, ↓reduceIte] at hx193_0)
     have qi193 : (2 < x9_2.length) = True := eq_true (by omega)
     (try rw [show ((2 : Int)).toNat = 2 from rfl] at hx193_0)
     replace p193 := eq_true p193
     replace q193 := eq_true q193
     have p194 : 0 ≤ (1 : Int) := (by omega)
     have q194 : 1 < (x9_2.length : Int) := of_decide_eq_true (by first | (with_reducible assumption) | assumption)
     obtain ⟨ad194, e194, hx194_0⟩ := Kd.at_int (Kd.R_reads' HO_9.out).2.2 1 p194 q194
     obtain rfl : ad183 = ad194 := (by injection e194)
     (try simp only [show (1 : Int).toNat = 1 from rfl, Nat.reduceMul, Nat.reduceEqDiff, Go.Addr.add, ↓reduceIte] at hx194_0)
     have qi194 : (1 < x9_2.length) = True := eq_true (by omega)
     (try rw [show ((1 : Int)).toNat = 1 from rfl] at hx194_0)
     replace p194 := eq_true p194
     replace q194 := eq_true q194
     have p195 : 0 ≤ (2 : Int) := (by omega)
     have q195 : 2 < (x9_2.length : Int) := of_decide_eq_true (by first | (with_reducible assumption) | assumption)
     obtain ⟨ad195, e195, hx195_0⟩ := Kd.at_int (Kd.R_reads' HO_9.out).2.2 2 p195 q195
     obtain rfl : ad183 = ad195 := (by injection e195)
     (try simp only [show (2 : Int).toNat = 2 from rfl, Nat.reduceMul, Nat.reduceEqDiff, Go.Addr.add, ↓reduceIte] at hx195_0)
     have qi195 : (2 < x9_2.length) = True := eq_true (by omega)
     (try rw [show ((2 : Int)).toNat = 2 from rfl] at hx195_0)
     replace p195 := eq_true p195
     replace q195 := eq_true q195
     refine start_ (n := 24) (S := fun w' => w'.cell? ad183 = some (.int .u32 (rd x9_2 0)) ∧ w'.cell? ⟨ad183.block, ad183.off + 1, none⟩ = some (.int .u32 (rd x9_2 1)) ∧ w'.cell? ad183 = some (.int .u32 (rd x9_2 0)) ∧ w'.cell? ⟨ad183.block, ad183.off + 2, none⟩ = some (.int .u32 (rd x9_2 2)) ∧ w'.cell? ⟨ad183.block, ad183.off + 1, none⟩ = some (.int .u32 (rd x9_2 1)) ∧ w'.cell? ⟨ad183.block, ad183.off + 2, none⟩ = some (.int .u32 (rd x9_2 2))) (ds := []) (bb_ 24 0) (by kernel_rfl) rfl rfl ⟨hx190_0, hx191_0, hx192_0, hx193_0, hx194_0, hx195_0⟩ (fun hHeld => ?_); refine with_tabW spec_l05Round.tab13 spec_l05Round.bits13 (fun HT_ HW_ => ?_)
     generalize w44.drew = w46 at HO_7 HO_9 HB hx190_0 hx191_0 hx192_0 hx193_0 hx194_0 hx195_0 hHeld ⊢
     refine pS_ 0 93 (bb_ 24 1) HT_.out ?_
     refine pS_ 1 94 (bb_ 24 3) HT_.out ?_
     refine pS_ 3 96 (bb_ 24 11) HT_.out ?_
     refine pS_ 4 97 (bb_ 24 27) HT_.out ?_
     refine pS_ 7 100 (bb_ 24 155) HT_.out ?_
     refine pS_ 8 101 (bb_ 24 411) HT_.out ?_
     refine pS_ 10 103 (bb_ 24 1435) HT_.out ?_
     refine pS_ 11 104 (bb_ 24 3483) HT_.out ?_
     refine pS_ 15 108 (bb_ 24 36251) HT_.out ?_
     refine pS_ 16 109 (bb_ 24 101787) HT_.out ?_
     refine pS_ 18 111 (bb_ 24 363931) HT_.out ?_
     refine pS_ 19 112 (bb_ 24 888219) HT_.out ?_
     refine tS_ 2 95 (bb_ 24 888223) (take_ofW HT_.out HW_.out (by kernel_rfl)) hHeld ?_
     refine tS_ 5 98 (bb_ 24 888255) (take_ofW HT_.out HW_.out (by kernel_rfl)) hHeld ?_
     refine pS_ 6 99 (bb_ 24 888319) HT_.out ?_
     refine tS_ 9 102 (bb_ 24 888831) (take_ofW HT_.out HW_.out (by kernel_rfl)) hHeld ?_
     refine tS_ 12 105 (bb_ 24 892927) (take_ofW HT_.out HW_.out (by kernel_rfl)) hHeld ?_
     refine pS_ 13 106 (bb_ 24 901119) HT_.out ?_
     refine pS_ 14 107 (bb_ 24 917503) HT_.out ?_
     refine tS_ 17 110 (bb_ 24 1048575) (take_ofW HT_.out HW_.out (by kernel_rfl)) hHeld ?_
     refine tS_ 20 113 (bb_ 24 2097151) (take_ofW HT_.out HW_.out (by kernel_rfl)) hHeld ?_
     refine pS_ 21 114 (bb_ 24 4194303) HT_.out ?_
     refine pS_ 22 115 (bb_ 24 8388607) HT_.out ?_
     refine pS_ 23 14 (bb_ 24 16777215) HT_.out ?_
     refine done_ (done_of HT_.out (by kernel_rfl)) ?_
     have p196 : 0 ≤ (0 : Int) := (by omega)
     have q196 : 0 < (x9_2.length : Int) := of_decide_eq_true (by first | (with_reducible assumption) | assumption)
     obtain ⟨ad196, e196, hx196_0⟩ := Kd.at_int (Kd.R_reads' HO_9.out).2.2 0 p196 q196
     obtain rfl : ad183 = ad196 := (by injection e196)
     have qi196 : (0 < x9_2.length) = True := eq_true (by omega)
     (try rw [show ((0 : Int)).toNat = 0 from rfl] at hx196_0)
     (try rw [Addr.add_zero'] at hx196_0)
     replace p196 := eq_true p196
     replace q196 := eq_true q196
     try go_wp2_with (first | ((with_reducible refine gate_callee (f := 149) rfl ?_); refine goesL_ (some 119) rfl rfl Try.func149 (by kernel_rfl) rfl #[.int .u32 (rd x9_2 0), .int .u32 4, .int .u32 8192, .int .u32 4194304, .bool false] rfl aM_ ?_; (with_reducible refine (spec_l05S.calls (rd x9_2 0) 4 8192 4194304 false t197 _ A41.out).mono ?_); rintro e w' ⟨rfl, ⟨nd, rfl⟩⟩; refine ⟨_, rfl, ?_⟩))
     go_loopg [16] k2 (fun kq v16 w' => ∃ (x9_3 : List Int) (x16_3 : Int), v16 = .int .i64 x16_3 ∧ Aside0 (spec_l05Round.l2 kq l0 l1 x7_1 x9_3 x10_2 (((((((((rd x9_2 7) + t187) % 4294967296) + (Go.bits .xor .u32 (Go.bits .and .u32 (rd x9_2 4) (rd x9_2 5)) (Go.bits .and .u32 ((4294967295 - (rd x9_2 4)) % 4294967296) (rd x9_2 6)))) % 4294967296) + (rd l1 x10_2)) % 4294967296) + (rd x7_1 x10_2)) % 4294967296) ((t197 + (Go.bits .xor .u32 (Go.bits .xor .u32 (Go.bits .and .u32 (rd x9_2 0) (rd x9_2 1)) (Go.bits .and .u32 (rd x9_2 0) (rd x9_2 2))) (Go.bits .and .u32 (rd x9_2 1) (rd x9_2 2)))) % 4294967296) x16_3 = some r) ∧ Aside0 (kq ≤ k2) ∧ Aside0 (Kd.R (Kd.int .u32) 142 w' w.heap.size (fun k_ => some k_ ≠ ((.slice (some ad183) x9_2.length co42) : Value).ownBlock) (.slice (some ad189) x7_1.length co45) x7_1) ∧ Aside0 (Kd.R (Kd.int .u32) 142 w' w.heap.size (fun k_ => some k_ ≠ ((.slice (some ad189) x7_1.length co45) : Value).ownBlock) (.slice (some ad183) x9_2.length co42) x9_3) ∧ Aside0 (Below w.heap.size w w'))
     case atStart => exact ⟨(x9_2), (7), (by first | rfl | (simp; done) | (simp [*]; done)), H', ⟨Nat.le_refl _⟩, ⟨rR_ HO_7.out⟩, ⟨rR_ HO_9.out⟩, ⟨hB_⟩⟩
     case round =>
      clear H'
      obtain ⟨x9_3, x16_3, rfl, HA, HK3, HO_7, HO_9, HB⟩ := hrel
      have hl9_3 := (Kd.R_reads' HO_9.out).1
      rw [hl9_3] at HO_9
      (try simp only [hl9_3])
      (try simp only [hl9_3] at HO_7)
      cases gk with
      | zero => exact absurd HA.out (by simp [spec_l05Round.l2])
      | succ k3 =>
       have H := HA.out
       clear HA
       simp only [spec_l05Round.l2] at H
       by_cases c47 : x16_3 > 0
       ·rw [if_pos c47] at H
        have c47b0 := decide_eq_true c47
        clear c47
        obtain ⟨ji48, hji48⟩ : ∃ j_ : Int, (wrap64 (x16_3 - 1)) = j_ := ⟨_, rfl⟩
        first | rw [hji48] at H | simp only [hji48] at H
        have hji48w : (IntKind.i64.wrap (x16_3 - 1)) = ji48 := (i64_w _).trans hji48
        obtain ⟨c49b0, H⟩ := iD_ H
        obtain ⟨c50, H⟩ := iN_ H
        have c50b0 := decide_eq_true c50
        (try simp only [hl9_3] at c50b0)
        clear c50
        obtain ⟨c51b0, H⟩ := iD_ H
        obtain ⟨c52, H⟩ := iN_ H
        have c52b0 := decide_eq_true c52
        (try simp only [hl9_3] at c52b0)
        clear c52
        obtain ⟨y199, hy199⟩ : ∃ y_ : List Int, y_ = (x9_3.set (x16_3 : Int).toNat (rd x9_3 (ji48))) := ⟨_, rfl⟩
        first | replace H := yb_ hy199 H | rw [← hy199] at H
        have Ny199 := Aside0.mk hy199
        clear hy199
        have H' := Aside0.mk H
        clear H
        have p198 : 0 ≤ ((ji48) : Int) := of_decide_eq_true (by first | (with_reducible assumption) | assumption)
        have q198 : (ji48) < (x9_3.length : Int) := of_decide_eq_true (by first | (with_reducible assumption) | assumption)
        obtain ⟨ad198, e198, hx198_0⟩ := Kd.at_int (Kd.R_reads' HO_9.out).2.2 (ji48) p198 q198
        obtain rfl : ad183 = ad198 := (by injection e198)
        replace p198 := eq_true p198
        replace q198 := eq_true q198
        have p53 : 0 ≤ (x16_3 : Int) := of_decide_eq_true (by first | (with_reducible assumption) | assumption)
        have q53 : (x16_3 : Int) < ((x9_3.length : Int) : Int) := of_decide_eq_true (by first | (with_reducible assumption) | assumption)
        obtain ⟨go53, co53, eo53, gb53, gl53, cl53, HG53⟩ := Kd.R_form HO_9.out (by omega)
        (first | cases eo53 | (injection eo53 with ea_ en_ ec_; (first | subst ea_ | (injection ea_ with ea_; subst ea_)); subst ec_; clear en_))
        have GB53 := Aside0.mk gb53
        have GG53 := Aside0.mk HG53
        clear gb53 gl53 HG53
        (first | simp only [add_plain] at hx183_0 | skip)
        (first | simp only [add_plain] at hx184_0 | skip)
        (first | simp only [add_plain] at hx185_0 | skip)
        (first | simp only [add_plain] at hx186_0 | skip)
        (first | simp only [add_plain] at hx190_0 | skip)
        (first | simp only [add_plain] at hx191_0 | skip)
        (first | simp only [add_plain] at hx192_0 | skip)
        (first | simp only [add_plain] at hx193_0 | skip)
        (first | simp only [add_plain] at hx194_0 | skip)
        (first | simp only [add_plain] at hx195_0 | skip)
        (first | simp only [add_plain] at hx196_0 | skip)
        (first | simp only [add_plain] at hx198_0 | skip)
        obtain ⟨hx53_0, hf53_0⟩ := Kd.R_celln 0 HO_9.out (x16_3 : Int) p53 q53
        replace p53 := eq_true p53
        replace q53 := eq_true q53
        have HP54 := Kd.R_putg HO_9.out (x16_3 : Int) (rd x9_3 (ji48))
        go_wp2_with (first | ((with_reducible refine gate_store (t := 142) (p := 133) rfl ?_); refine store_event (t := 142) (p := 133) (v := ?vo_w55) (w1 := (wr.setCell ⟨go53, (x16_3 : Int).toNat, none⟩ (.int .u32 (rd x9_3 (ji48))))) ?hg ?ho ?hn ?hr ?_; (case ho => rfl); (case hg => rfl); (case hn => rfl); (case hr => first | (go_simp; done) | (go_simp; rfl)); intro w55 hw; have hg : wr.grownBy w55 (some go53) := (by rw [hw]; exact HP54.2); have hp_ : Kd.R (Kd.int .u32) 142 w55 w.heap.size (fun k_ => some k_ ≠ (.slice (some ad189) x7_1.length co45 : Value).ownBlock) (.slice (some ⟨go53, 0, none⟩) x9_3.length co42) y199 := (by rw [hw, Ny199.out]; exact HP54.1); clear HP54; have n_ := b_ (Kd.R_after (v := (.slice (some ⟨go53, 0, none⟩) x9_3.length co42)) (v1 := (.slice (some ⟨go53, 0, none⟩) x9_3.length co42)) (ok := (fun _ => True)) (by refine kR_ ?_; exact Kd.R_mono HO_7.out (fun _ hk => ⟨trivial, hk⟩)) hg (.inl rfl)) <| b_ (hp_) <| c_ (by rw [hw]; exact below_set (HB.out) GB53.out : Below w.heap.size w w55); clear HO_7 HO_9 HB; obtain ⟨HO_7, HO_9, HB⟩ := n_; clear hg hw hp_))
        (try simp only [← hl9_3])
        go_roundg k3
        case measure => have := HK1.out; have := HK2.out; have := HK3.out; omega
        case rel => exact ⟨(y199), (ji48), (by first | rfl | (simp; done) | (simp only [← hji48] <;> (first | rfl | simp)) | (simp [*]; done)), H', ⟨by have := HK1.out; have := HK2.out; have := HK3.out; omega⟩, ⟨by (try simp only [hl9_3]); refine kR_ ?_; exact Kd.R_mono HO_7.out (fun _ hk => hk.2)⟩, ⟨by (try simp only [hl9_3]); refine kR_ ?_; exact HO_9.out⟩, ⟨hB_⟩⟩
       rw [if_neg c47] at H
       have c47b0 := decide_eq_false c47
       clear c47
       obtain ⟨c56, H⟩ := iN_ H
       have c56b0 := decide_eq_true c56
       have c56b1 : decide (4 < x9_3.length) = true := decide_eq_true (by omega)
       (try simp only [hl9_3] at c56b0)
       (try simp only [hl9_3] at c56b1)
       clear c56
       obtain ⟨y201, hy201⟩ : ∃ y_ : List Int, y_ = (x9_3.set (4 : Int).toNat (((rd x9_3 4) + (((((((((rd x9_2 7) + t187) % 4294967296) + (Go.bits .xor .u32 (Go.bits .and .u32 (rd x9_2 4) (rd x9_2 5)) (Go.bits .and .u32 ((4294967295 - (rd x9_2 4)) % 4294967296) (rd x9_2 6)))) % 4294967296) + (rd l1 x10_2)) % 4294967296) + (rd x7_1 x10_2)) % 4294967296)) % 4294967296)) := ⟨_, rfl⟩
       first | replace H := yb_ hy201 H | rw [← hy201] at H
       have Ny201 := Aside0.mk hy201
       clear hy201
       obtain ⟨c58, H⟩ := iN_ H
       have c58b0 := decide_eq_true c58
       have c58b1 : decide (0 < x9_3.length) = true := decide_eq_true (by omega)
       (try simp only [hl9_3] at c58b0)
       (try simp only [hl9_3] at c58b1)
       clear c58
       obtain ⟨y202, hy202⟩ : ∃ y_ : List Int, y_ = (y201.set (0 : Int).toNat (((((((((((rd x9_2 7) + t187) % 4294967296) + (Go.bits .xor .u32 (Go.bits .and .u32 (rd x9_2 4) (rd x9_2 5)) (Go.bits .and .u32 ((4294967295 - (rd x9_2 4)) % 4294967296) (rd x9_2 6)))) % 4294967296) + (rd l1 x10_2)) % 4294967296) + (rd x7_1 x10_2)) % 4294967296) + ((t197 + (Go.bits .xor .u32 (Go.bits .xor .u32 (Go.bits .and .u32 (rd x9_2 0) (rd x9_2 1)) (Go.bits .and .u32 (rd x9_2 0) (rd x9_2 2))) (Go.bits .and .u32 (rd x9_2 1) (rd x9_2 2)))) % 4294967296)) % 4294967296)) := ⟨_, rfl⟩
       first | replace H := yb_ hy202 H | rw [← hy202] at H
       have Ny202 := Aside0.mk hy202
       clear hy202
       have H' := Aside0.mk H
       clear H
       have p200 : 0 ≤ (4 : Int) := (by omega)
       have q200 : 4 < (x9_3.length : Int) := of_decide_eq_true (by first | (with_reducible assumption) | assumption)
       obtain ⟨ad200, e200, hx200_0⟩ := Kd.at_int (Kd.R_reads' HO_9.out).2.2 4 p200 q200
       obtain rfl : ad183 = ad200 := (by injection e200)
       (try simp only [show (4 : Int).toNat = 4 from rfl, Nat.reduceMul, Nat.reduceEqDiff, Go.Addr.add, ↓reduceIte] at hx200_0)
       have qi200 : (4 < x9_3.length) = True := eq_true (by omega)
       (try rw [show ((4 : Int)).toNat = 4 from rfl] at hx200_0)
       replace p200 := eq_true p200
       replace q200 := eq_true q200
       have p57 : 0 ≤ (4 : Int) := (by omega)
       have q57 : (4 : Int) < ((x9_3.length : Int) : Int) := of_decide_eq_true (by first | (with_reducible assumption) | assumption)
       have qi57 : (4 < x9_3.length) = True := eq_true (by omega)
       obtain ⟨go57, co57, eo57, gb57, gl57, cl57, HG57⟩ := Kd.R_form HO_9.out (by omega)
       (first | cases eo57 | (injection eo57 with ea_ en_ ec_; (first | subst ea_ | (injection ea_ with ea_; subst ea_)); subst ec_; clear en_))
       have GB57 := Aside0.mk gb57
       have GG57 := Aside0.mk HG57
       clear gb57 gl57 HG57
       (first | simp only [add_plain] at hx200_0 | skip)
       obtain ⟨hx57_0, hf57_0⟩ := Kd.R_celln 0 HO_9.out (4 : Int) p57 q57
       (try rw [show ((4 : Int)).toNat = 4 from rfl] at hx57_0)
       (try simp only [Nat.reduceMul, Nat.zero_mul, Nat.zero_add, Nat.reduceAdd] at hx57_0)
       (try rw [show ((4 : Int)).toNat = 4 from rfl] at hf57_0)
       (try simp only [Nat.reduceMul, Nat.zero_mul, Nat.zero_add, Nat.reduceAdd] at hf57_0)
       replace p57 := eq_true p57
       replace q57 := eq_true q57
       have HP60 := Kd.R_putg HO_9.out (4 : Int) (((rd x9_3 4) + (((((((((rd x9_2 7) + t187) % 4294967296) + (Go.bits .xor .u32 (Go.bits .and .u32 (rd x9_2 4) (rd x9_2 5)) (Go.bits .and .u32 ((4294967295 - (rd x9_2 4)) % 4294967296) (rd x9_2 6)))) % 4294967296) + (rd l1 x10_2)) % 4294967296) + (rd x7_1 x10_2)) % 4294967296)) % 4294967296)
       go_wp2_with (first | ((with_reducible refine gate_store (t := 142) (p := 140) rfl ?_); refine store_event (t := 142) (p := 140) (v := ?vo_w61) (w1 := (wr.setCell ⟨go57, (4 : Int).toNat, none⟩ (.int .u32 (((rd x9_3 4) + (((((((((rd x9_2 7) + t187) % 4294967296) + (Go.bits .xor .u32 (Go.bits .and .u32 (rd x9_2 4) (rd x9_2 5)) (Go.bits .and .u32 ((4294967295 - (rd x9_2 4)) % 4294967296) (rd x9_2 6)))) % 4294967296) + (rd l1 x10_2)) % 4294967296) + (rd x7_1 x10_2)) % 4294967296)) % 4294967296)))) ?hg ?ho ?hn ?hr ?_; (case ho => rfl); (case hg => rfl); (case hn => rfl); (case hr => first | (go_simp; done) | (go_simp; rfl)); intro w61 hw; have hg : wr.grownBy w61 (some go57) := (by rw [hw]; exact HP60.2); have hp_ : Kd.R (Kd.int .u32) 142 w61 w.heap.size (fun k_ => some k_ ≠ (.slice (some ad189) x7_1.length co45 : Value).ownBlock) (.slice (some ⟨go57, 0, none⟩) x9_3.length co42) y201 := (by rw [hw, Ny201.out]; exact HP60.1); clear HP60; have n_ := b_ (Kd.R_after (v := (.slice (some ⟨go57, 0, none⟩) x9_3.length co42)) (v1 := (.slice (some ⟨go57, 0, none⟩) x9_3.length co42)) (ok := (fun _ => True)) (by refine kR_ ?_; exact Kd.R_mono HO_7.out (fun _ hk => ⟨trivial, hk⟩)) hg (.inl rfl)) <| b_ (hp_) <| c_ (by rw [hw]; exact below_set (HB.out) GB57.out : Below w.heap.size w w61); clear HO_7 HO_9 HB; obtain ⟨HO_7, HO_9, HB⟩ := n_; clear hg hw hp_; have p59 : 0 ≤ (0 : Int) := (by omega); have q59 : (0 : Int) < ((x9_3.length : Int) : Int) := of_decide_eq_true (by first | (with_reducible assumption) | assumption); have qi59 : (0 < x9_3.length) = True := eq_true (by omega); obtain ⟨hx59_0, hf59_0⟩ := Kd.R_celln 0 HO_9.out (0 : Int) p59 q59; (try rw [show ((0 : Int)).toNat = 0 from rfl] at hx59_0); (try simp only [Nat.reduceMul, Nat.zero_mul, Nat.zero_add, Nat.reduceAdd] at hx59_0); (try rw [show ((0 : Int)).toNat = 0 from rfl] at hf59_0); (try simp only [Nat.reduceMul, Nat.zero_mul, Nat.zero_add, Nat.reduceAdd] at hf59_0); replace p59 := eq_true p59; replace q59 := eq_true q59; obtain ⟨hy62_, hz62_⟩ := Kd.R_celln 0 HO_9.out (0 : Int) (by omega) (of_decide_eq_true (by first | (with_reducible assumption) | assumption)); (try simp only [Int.reduceToNat, Int.toNat_zero, Int.toNat_ofNat, Nat.reduceMul, Nat.zero_mul, Nat.zero_add] at hy62_ hz62_); (try rw [show ((0 : Int)).toNat = 0 from rfl] at hy62_); (try rw [show ((0 : Int)).toNat = 0 from rfl] at hz62_); have HP62 := Kd.R_putg HO_9.out (0 : Int) (((((((((((rd x9_2 7) + t187) % 4294967296) + (Go.bits .xor .u32 (Go.bits .and .u32 (rd x9_2 4) (rd x9_2 5)) (Go.bits .and .u32 ((4294967295 - (rd x9_2 4)) % 4294967296) (rd x9_2 6)))) % 4294967296) + (rd l1 x10_2)) % 4294967296) + (rd x7_1 x10_2)) % 4294967296) + ((t197 + (Go.bits .xor .u32 (Go.bits .xor .u32 (Go.bits .and .u32 (rd x9_2 0) (rd x9_2 1)) (Go.bits .and .u32 (rd x9_2 0) (rd x9_2 2))) (Go.bits .and .u32 (rd x9_2 1) (rd x9_2 2)))) % 4294967296)) % 4294967296)) | ((with_reducible refine gate_store (t := 142) (p := 145) rfl ?_); refine store_event (t := 142) (p := 145) (v := ?vo_w63) (w1 := (w61.setCell ⟨go57, (0 : Int).toNat, none⟩ (.int .u32 (((((((((((rd x9_2 7) + t187) % 4294967296) + (Go.bits .xor .u32 (Go.bits .and .u32 (rd x9_2 4) (rd x9_2 5)) (Go.bits .and .u32 ((4294967295 - (rd x9_2 4)) % 4294967296) (rd x9_2 6)))) % 4294967296) + (rd l1 x10_2)) % 4294967296) + (rd x7_1 x10_2)) % 4294967296) + ((t197 + (Go.bits .xor .u32 (Go.bits .xor .u32 (Go.bits .and .u32 (rd x9_2 0) (rd x9_2 1)) (Go.bits .and .u32 (rd x9_2 0) (rd x9_2 2))) (Go.bits .and .u32 (rd x9_2 1) (rd x9_2 2)))) % 4294967296)) % 4294967296)))) ?hg ?ho ?hn ?hr ?_; (case ho => rfl); (case hg => rfl); (case hn => rfl); (case hr => first | (go_simp; done) | (go_simp; rfl)); intro w63 hw; have hg : w61.grownBy w63 (some go57) := (by rw [hw]; exact HP62.2); have hp_ : Kd.R (Kd.int .u32) 142 w63 w.heap.size (fun k_ => some k_ ≠ (.slice (some ad189) x7_1.length co45 : Value).ownBlock) (.slice (some ⟨go57, 0, none⟩) x9_3.length co42) y202 := (by rw [hw, Ny202.out]; exact HP62.1); clear HP62; have n_ := b_ (Kd.R_after (v := (.slice (some ⟨go57, 0, none⟩) x9_3.length co42)) (v1 := (.slice (some ⟨go57, 0, none⟩) x9_3.length co42)) (ok := (fun _ => True)) (rR_ HO_7.out) hg (.inl rfl)) <| b_ (hp_) <| c_ (by rw [hw]; exact below_set (HB.out) GB57.out : Below w.heap.size w w63); clear HO_7 HO_9 HB; obtain ⟨HO_7, HO_9, HB⟩ := n_; clear hg hw hp_))
       (try simp only [← hl9_3])
       go_roundg k3
       case measure => have := HK1.out; have := HK2.out; have := HK3.out; omega
       case rel => exact ⟨(y202), (wrap64 (x10_2 + 1)), (by first | rfl | (simp; done) | (simp [*]; done)), H', ⟨by have := HK1.out; have := HK2.out; have := HK3.out; omega⟩, ⟨by (try simp only [hl9_3]); refine kR_ ?_; exact Kd.R_mono HO_7.out (fun _ hk => hk.2)⟩, ⟨by (try simp only [hl9_3]); refine kR_ ?_; exact HO_9.out⟩, ⟨hB_⟩⟩

/-! ### spec_l05Bytes: function 146 -/
def spec_l05Bytes.l0 : Nat → List Int → List Int → Int → Option (ByteArray)
 | 0, _, _, _ => none
 | k + 1, x0, x3, x4 => if x4 < (x0.length : Int) then (if 0 ≤ x4 then ((some (([((Int.tdiv (rd x0 x4) 16777216) % 4294967296) % 256, ((Int.tdiv (rd x0 x4) 65536) % 4294967296) % 256, ((Int.tdiv (rd x0 x4) 256) % 4294967296) % 256, (Int.tmod (rd x0 x4) 256) % 256] : List Int) : List Int)).bind fun y215 => (if x3.length + y215.length < 140737488355328 then (spec_l05Bytes.l0 k x0 (x3 ++ y215) (wrap64 (x4 + 1))) else (none))) else (none)) else (some (strOfNums x3))
def spec_l05Bytes.f (k : Nat) (l0 : List Int) : Option (ByteArray) := spec_l05Bytes.l0 k l0 (([] : List Int)) 0
theorem spec_l05Bytes.mono_l : ∀ k, (∀ y0 y1 y2, LeO (spec_l05Bytes.l0 k y0 y1 y2) (spec_l05Bytes.l0 (k + 1) y0 y1 y2))
 | 0 => fun _ _ _ r h => by simp [spec_l05Bytes.l0] at h
 | k + 1 => by
  have ih0 := spec_l05Bytes.mono_l k
  intros; unfold spec_l05Bytes.l0; exact o1_ ih0
theorem spec_l05Bytes.mono : ∀ a0 k, LeO (spec_l05Bytes.f k a0) (spec_l05Bytes.f (k + 1) a0) := by
 intro a0 k
 have ih0 := spec_l05Bytes.mono_l k
 unfold spec_l05Bytes.f
 exact o1_ ih0
theorem spec_l05Bytes.calls (k : Nat) (A0 : Option Addr) (c0 : Nat) (l0 : List Int) (r : ByteArray) (w : World) (hr0 : Kd.C (Kd.int .u32) w A0 l0.length l0) (hc0 : l0.length ≤ c0) (h : spec_l05Bytes.f k l0 = some r) :
  Calls Try.prog 146 #[.slice A0 l0.length c0] w fun e w' => e = .returned (.string r) ∧ Below w.heap.size w w' := by
 have HR0 := Aside0.mk hr0
 have HC0 := Aside0.mk hc0
 clear hr0 hc0
 have HB := Aside0.mk (Below.refl w.heap.size w)
 delta spec_l05Bytes.f at h
 have H := h
 clear h
 obtain ⟨y211, hy211⟩ : ∃ y_ : List Int, y_ = (([] : List Int)) := ⟨_, rfl⟩
 first | replace H := yb_ hy211 H | rw [← hy211] at H
 have Ny211 := Aside0.mk hy211
 clear hy211
 have H' := Aside0.mk H
 clear H
 go_enter Try.func146, Try.ntmps146
 go_wp2_with (first | ((with_reducible refine gate_dst (N := 6) rfl ?_); refine Kd.R_lit (Kd.int .u8) _ 5 ?hg (N := 6) ?hd (xs := ([] : List Int)) (inner := []) (ok := fun _ => True) (okp := fun _ => True) ?hr ?hp (fun _ hk => hk) trivial (Below.refl _ _) (Nat.le_refl _) (by simp) ?_; (case hd => rfl); (case hg => rfl); (case hr => first | (go_simp; done) | (go_simp; rfl)); (case hp => exact (Reps.none _ _)); intro v212 w2 ho3 hb hg_ hnew_; clear hg_ hnew_; (first | rw [← Ny211.out] at ho3 | (simp only [Int.reduceToNat] at ho3; rw [← Ny211.out] at ho3)); have n_ := b_ (Kd.R_lower ho3 (below_size (hB_))) <| c_ (below_step (hB_) hb); clear HB; obtain ⟨HO213, HB⟩ := n_; clear hb ho3))
 go_loopg [3, 4] k (fun kq v3 v4 w' => ∃ (x3_1 : List Int) (x4_1 : Int), v4 = .int .i64 x4_1 ∧ Aside0 (spec_l05Bytes.l0 kq l0 x3_1 x4_1 = some r) ∧ Aside0 (kq ≤ k) ∧ Aside0 (Kd.R (Kd.int .u8) 5 w' w.heap.size (fun _ => True) v3 x3_1) ∧ Aside0 (Below w.heap.size w w'))
 case atStart => exact ⟨(y211), (0), (by first | rfl | (simp; done) | (simp [*]; done)), H', ⟨Nat.le_refl _⟩, ⟨rR_ HO213.out⟩, ⟨hB_⟩⟩
 case round =>
  clear H'
  obtain ⟨x3_1, x4_1, rfl, HA, HK1, HO_3, HB⟩ := hrel
  cases gk with
  | zero => exact absurd HA.out (by simp [spec_l05Bytes.l0])
  | succ k1 =>
   have H := HA.out
   clear HA
   simp only [spec_l05Bytes.l0] at H
   by_cases c4 : x4_1 < (l0.length : Int)
   rotate_left
   ·rw [if_neg c4] at H
    have c4b0 := decide_eq_false c4
    clear c4
    obtain rfl := Option.some.inj H
    have hcv11 := own_string (P := Try.prog) Try.underlying29 Try.underlying5 Try.underlying9 (Kd.own_of_R HO_3.out)
    go_wp2
    go_ret
    exact ⟨by first | rfl | (simp [errW_none, errW_some] <;> rfl) | (simp [*, errW_none, errW_some] <;> rfl), hB_⟩
   rw [if_pos c4] at H
   have c4b0 := decide_eq_true c4
   clear c4
   obtain ⟨c5b0, H⟩ := iD_ H
   obtain ⟨y215, hy215⟩ : ∃ y_ : List Int, y_ = (([((Int.tdiv (rd l0 x4_1) 16777216) % 4294967296) % 256, ((Int.tdiv (rd l0 x4_1) 65536) % 4294967296) % 256, ((Int.tdiv (rd l0 x4_1) 256) % 4294967296) % 256, (Int.tmod (rd l0 x4_1) 256) % 256] : List Int)) := ⟨_, rfl⟩
   first | replace H := yb_ hy215 H | rw [← hy215] at H
   have Ny215 := Aside0.mk hy215
   clear hy215
   obtain ⟨c6, H⟩ := iN_ H
   have LMc6 := Aside0.mk c6
   clear c6
   obtain ⟨y218, hy218⟩ : ∃ y_ : List Int, y_ = (x3_1 ++ y215) := ⟨_, rfl⟩
   first | replace H := yb_ hy218 H | rw [← hy218] at H
   have Ny218 := Aside0.mk hy218
   clear hy218
   have H' := Aside0.mk H
   clear H
   have p214 : 0 ≤ (x4_1 : Int) := of_decide_eq_true (by first | (with_reducible assumption) | assumption)
   have q214 : x4_1 < (l0.length : Int) := of_decide_eq_true (by first | (with_reducible assumption) | assumption)
   obtain ⟨ad214, e214, hx214_0⟩ := Kd.at_int HR0.out x4_1 p214 q214
   cases e214
   replace hx214_0 := (HB.out.cell (World.block_lt_of_cell? w _ hx214_0)).trans hx214_0
   replace p214 := eq_true p214
   replace q214 := eq_true q214
   go_wp2_with (first | ((with_reducible refine gate_dst (N := 32) rfl ?_); refine Kd.R_lit (Kd.int .u8) _ 5 ?hg (N := 32) ?hd (xs := ([((Int.tdiv (rd l0 x4_1) 16777216) % 4294967296) % 256, ((Int.tdiv (rd l0 x4_1) 65536) % 4294967296) % 256, ((Int.tdiv (rd l0 x4_1) 256) % 4294967296) % 256, (Int.tmod (rd l0 x4_1) 256) % 256] : List Int)) (inner := [.int .u8 (((Int.tdiv (rd l0 x4_1) 16777216) % 4294967296) % 256), .int .u8 (((Int.tdiv (rd l0 x4_1) 65536) % 4294967296) % 256), .int .u8 (((Int.tdiv (rd l0 x4_1) 256) % 4294967296) % 256), .int .u8 ((Int.tmod (rd l0 x4_1) 256) % 256)]) (ok := fun _ => True) (okp := fun _ => True) ?hr ?hp (fun _ hk => hk) trivial (Below.refl _ _) (Nat.le_refl _) (by simp) ?_; (case hd => rfl); (case hg => rfl); (case hr => first | (go_simp; done) | (go_simp; rfl)); (case hp => exact (Reps.one (show Kd.M (Kd.int .u8) _ _ _ (((Int.tdiv (rd l0 x4_1) 16777216) % 4294967296) % 256) [.int .u8 (((Int.tdiv (rd l0 x4_1) 16777216) % 4294967296) % 256)] from rfl) (Reps.one (show Kd.M (Kd.int .u8) _ _ _ (((Int.tdiv (rd l0 x4_1) 65536) % 4294967296) % 256) [.int .u8 (((Int.tdiv (rd l0 x4_1) 65536) % 4294967296) % 256)] from rfl) (Reps.one (show Kd.M (Kd.int .u8) _ _ _ (((Int.tdiv (rd l0 x4_1) 256) % 4294967296) % 256) [.int .u8 (((Int.tdiv (rd l0 x4_1) 256) % 4294967296) % 256)] from rfl) (Reps.one (show Kd.M (Kd.int .u8) _ _ _ ((Int.tmod (rd l0 x4_1) 256) % 256) [.int .u8 ((Int.tmod (rd l0 x4_1) 256) % 256)] from rfl) (Reps.none _ _)))))); intro v216 w7 ho8 hb hg_ hnew_; clear hg_ hnew_; (first | rw [← Ny215.out] at ho8 | (simp only [Int.reduceToNat] at ho8; rw [← Ny215.out] at ho8)); have n_ := b_ (Kd.R_elder' (rR_ HO_3.out) (Kd.R_base ho8) hb) <| b_ (Kd.R_lower (Kd.R_new' ho8 (Kd.R_lt (rR_ HO_3.out))) (below_size (hB_))) <| c_ (below_step (hB_) hb); clear HO_3 HB; obtain ⟨HO_3, HO217, HB⟩ := n_; clear hb ho8; obtain ⟨Ao10, co10, eo10⟩ := Kd.R_slice HO217.out; subst eo10) | ((with_reducible refine gate_builtin (b := .append) (xs := #[.tmp 17, .tmp 32]) rfl ?_); at_builtin; refine Kd.R_append_rows (Kd.int .u8) (w0 := w) w.heap.size rfl (.tmp 17) (.tmp 32) 29 5 (.int .u8 0) 1 rfl Try.underlying29 info5 rfl (by decide) (by omega) u3 x3_1 y215 _ _ _ (fun k_ => some k_ ≠ (.slice Ao10 y215.length co10 : Value).ownBlock) (fun _ => False) rfl rfl ?aO ?aR (fun _ _ h => h) (fun _ h => h.elim) ?aF ?aB ?aS ?aL ?_; (case aR => exact cR_ (Kd.R_reads' HO217.out).2.2); (case aB => exact (hB_)); (case aF => exact (fun k_ hk => Kd.fresh' (Kd.R_lt (rR_ HO217.out)) k_ hk)); (case aO => exact (by refine kR_ ?_; exact Kd.R_mono HO_3.out (fun _ hk => hk.2))); (case aS => exact (below_size (hB_))); (case aL => have := LMc6.out; omega); intro v219 w9 ho hb hg hat; rw [← Ny218.out] at ho; have n_ := b_ (Kd.R_after (ok := (fun _ => True)) (rR_ HO217.out) hg hat) <| b_ (hb) <| c_ (ho); clear HO_3 HO217 HB; obtain ⟨HO217, HB, HO220⟩ := n_; clear ho hb hg hat))
   go_roundg k1
   case measure => have := HK1.out; omega
   case rel => exact ⟨(y218), (wrap64 (x4_1 + 1)), (by first | rfl | (simp; done) | (simp [*]; done)), H', ⟨by have := HK1.out; omega⟩, ⟨by refine kR_ ?_; exact Kd.R_mono HO220.out (fun _ hk => trivial)⟩, ⟨hB_⟩⟩

-- GIVEN: function 139 (spec_HashEnd)

/-! ### spec_HashMore: function 140 -/
mutual
def spec_HashMore.j0 : Nat → ByteArray → Bool → ByteArray → ByteArray → Int → Option (ByteArray × ByteArray × Int)
 | 0, _, _, _, _, _ => none
 | k + 1, x1, x19, x222000, x222001, x222002 => if x19 = true then (some (x222000, x222001, x222002)) else ((spec_l05Words.f k x222000).bind fun t224 => ((spec_l05K.f).bind fun t227 => (if x222001.size + x1.size ≤ 9223372036854775807 then (spec_HashMore.l0 k x1 t224 t227 (x222001 ++ x1) 0 x222000 x222001 x222002) else (none))))
def spec_HashMore.l0 : Nat → ByteArray → List Int → List Int → ByteArray → Int → ByteArray → ByteArray → Int → Option (ByteArray × ByteArray × Int)
 | 0, _, _, _, _, _, _, _, _ => none
 | k + 1, x1, x5, x6, x7, x8, x222000, x222001, x222002 => if (wrap64 (x8 + 64)) ≤ (x7.size : Int) then (if 0 ≤ x8 then (if x8 ≤ (wrap64 (x8 + 64)) then ((spec_l05Round.f k x5 x6 (x7.extract (x8 : Int).toNat ((wrap64 (x8 + 64)) : Int).toNat)).bind fun t230 => (spec_HashMore.l0 k x1 t230 x6 x7 (wrap64 (x8 + 64)) x222000 x222001 x222002)) else (none)) else (none)) else ((spec_l05Bytes.f k x5).bind fun t233 => (if 0 ≤ x8 then (if x8 ≤ (x7.size : Int) then (some (t233, x7.extract (x8 : Int).toNat x7.size, wrap64 (x222002 + (x1.size : Int)))) else (none)) else (none)))
end
def spec_HashMore.f (k : Nat) (a0_0 : ByteArray) (a0_1 : ByteArray) (a0_2 : Int) (a1 : ByteArray) : Option (ByteArray × ByteArray × Int) := (spec_HasherOk.f a0_0 a0_1 a0_2).bind fun t223 => (if t223 = true then (spec_HashMore.j0 k a1 (decide ((wrap64 (a0_2 + (a1.size : Int))) > 1000000000)) a0_0 a0_1 a0_2) else (spec_HashMore.j0 k a1 true a0_0 a0_1 a0_2))
theorem spec_HashMore.mono_l : ∀ k, (∀ y0 y1 y2 y3 y4, LeO (spec_HashMore.j0 k y0 y1 y2 y3 y4) (spec_HashMore.j0 (k + 1) y0 y1 y2 y3 y4)) ∧ (∀ y0 y1 y2 y3 y4 y5 y6 y7, LeO (spec_HashMore.l0 k y0 y1 y2 y3 y4 y5 y6 y7) (spec_HashMore.l0 (k + 1) y0 y1 y2 y3 y4 y5 y6 y7))
 | 0 => ⟨fun _ _ _ _ _ r h => by simp [spec_HashMore.j0] at h, fun _ _ _ _ _ _ _ _ r h => by simp [spec_HashMore.l0] at h⟩
 | k + 1 => by
  obtain ⟨ih0, ih1⟩ := spec_HashMore.mono_l k
  refine ⟨?_, ?_⟩ <;> (intros; (first | unfold spec_HashMore.j0 | unfold spec_HashMore.l0); exact o5_ ih0 ih1 spec_l05Bytes.mono spec_l05Round.mono spec_l05Words.mono)
theorem spec_HashMore.mono : ∀ a0 a1 a2 a3 k, LeO (spec_HashMore.f k a0 a1 a2 a3) (spec_HashMore.f (k + 1) a0 a1 a2 a3) := by
 intro a0 a1 a2 a3 k
 obtain ⟨ih0, ih1⟩ := spec_HashMore.mono_l k
 unfold spec_HashMore.f
 exact o5_ ih0 ih1 spec_l05Bytes.mono spec_l05Round.mono spec_l05Words.mono
def spec_HashMore.T10 : Bool × List (List Nat × List Nat) := (true, [([], []), ([0], [0]), ([], []), ([], []), ([2, 3], [2, 3]), ([], []), ([5], [5]), ([], []), ([7], [7]), ([6, 8], [6, 8]), ([1, 4, 9], [1, 4, 9]), ([10, 1, 0, 1, 2, 3, 4, 5, 6, 7, 8, 9, 10], [10])])
def spec_HashMore.B10 : List Nat := [0, 1, 0, 0, 12, 0, 32, 0, 128, 480, 1023, 2047]
theorem spec_HashMore.tab10 : rtab .any (opsOf Try.f140 10) = spec_HashMore.T10 := by kernel_rfl
theorem spec_HashMore.bits10 : waitsOk spec_HashMore.T10.2 spec_HashMore.B10 = true := by kernel_rfl
theorem spec_HashMore.calls (k : Nat) (a0_0 : ByteArray) (a0_1 : ByteArray) (a0_2 : Int) (a1 : ByteArray) (r1 : ByteArray) (r2 : ByteArray) (r3 : Int) (w : World) (h : spec_HashMore.f k a0_0 a0_1 a0_2 a1 = some (r1, r2, r3)) :
  Calls Try.prog 140 #[.agg #[.string a0_0, .string a0_1, .int .i64 a0_2], .string a1] w fun e w' => e = .returned (.agg #[.string r1, .string r2, .int .i64 r3]) ∧ Below w.heap.size w w' := by
 have hu133 := Try.underlying133
 have HB := Aside0.mk (Below.refl w.heap.size w)
 delta spec_HashMore.f at h
 have H := h
 clear h
 have HC3 := Aside0.mk H
 clear H
 go_enter Try.func140, Try.ntmps140
 go_upto_region 1 with (first | ((with_reducible refine gate_dst (N := 2) rfl ?_); (try (refine gate_guard (by rfl) ?_; dsimp only)); refine box_event ?hg (N := 2) ?hd (cs := #[.string a0_0, .string a0_1, .int .i64 a0_2]) (t := 133) ?hr ?_; (case hd => rfl); (case hg => rfl); (case hr => first | (go_simp; done) | (go_simp; rfl)); intro gb221 hg w4 hbox hb; have n_ := b_ (below_step (hB_) hb) <| b_ (hbox) <| b_ (by rw [hg]; exact (below_size (hB_)) : w.heap.size ≤ gb221) <| c_ (by rw [hg]; exact (below_size (hB_)) : w.heap.size ≤ gb221); clear HB; obtain ⟨HB, BK221, GW221, GE221⟩ := n_; clear hb hbox hg) | ((with_reducible refine gate_dst (N := 4) rfl ?_); (try (refine gate_guard (by rfl) ?_; dsimp only)); refine box_event ?hg (N := 4) ?hd (cs := #[.string (⟨#[]⟩ : ByteArray), .string (⟨#[]⟩ : ByteArray), .int .i64 0]) (t := 133) ?hr ?_; (case hd => rfl); (case hg => rfl); (case hr => first | (go_simp; done) | (go_simp; rfl)); intro gb222 hg w5 hbox hb; have n_ := b_ (blk_below (g := gb221) (o := .cells #[.string a0_0, .string a0_1, .int .i64 a0_2] 133 (0, 0)) (rK_ BK221.out) hb) <| b_ (below_step (hS_ GE221.out) hb) <| b_ (hbox) <| b_ (by rw [hg]; exact (below_size (hS_ GE221.out)) : w.heap.size ≤ gb222) <| b_ (by rw [hg]; exact (below_size (hS_ GE221.out)) : w.heap.size ≤ gb222) <| b_ (by rw [hg]; exact Nat.ne_of_lt (blk_lt (g := gb221) (o := .cells #[.string a0_0, .string a0_1, .int .i64 a0_2] 133 (0, 0)) (rK_ BK221.out)) : gb221 ≠ gb222) <| c_ (by rw [hg]; exact Nat.ne_of_gt (blk_lt (g := gb221) (o := .cells #[.string a0_0, .string a0_1, .int .i64 a0_2] 133 (0, 0)) (rK_ BK221.out)) : gb222 ≠ gb221); clear BK221 HB; obtain ⟨BK221, HB, BK222, GW222, GE222, NB221_222, NB222_221⟩ := n_; clear hb hbox hg))
 (try simp only [Act.put, List.setIfInBounds_toArray, List.set_cons_zero, List.set_cons_succ])
 go_cut [19] (fun v19 wc => ∃ (kq : Nat) (x19_2 : Bool), v19 = .bool x19_2 ∧ Aside0 (spec_HashMore.j0 kq a1 x19_2 a0_0 a0_1 a0_2 = some (r1, r2, r3)) ∧ Aside0 (kq ≤ k) ∧ Aside0 (wc.heap[gb221]? = some (.cells #[.string a0_0, .string a0_1, .int .i64 a0_2] 133 (0, 0))) ∧ Aside0 (wc.heap[gb222]? = some (.cells #[.string (⟨#[]⟩ : ByteArray), .string (⟨#[]⟩ : ByteArray), .int .i64 0] 133 (0, 0))) ∧ Aside0 (Below w.heap.size w wc))
 case first =>
  have H := HC3.out
  clear HC3
  obtain ⟨t223, A6, H⟩ := bN_ H
  by_cases c7 : t223 = true
  ·subst c7
   replace H := iT_ H
   have H' := Aside0.mk H
   clear H
   have hnb8 := NB221_222.out
   have hnc8 := NB222_221.out
   have hcz9_0 : w5.cell? ⟨gb221, 0, none⟩ = some (.string a0_0) := (blk_cell BK221.out 0).trans rfl
   have hcz9_1 : w5.cell? ⟨gb221, 1, none⟩ = some (.string a0_1) := (blk_cell BK221.out 1).trans rfl
   have hcz9_2 : w5.cell? ⟨gb221, 2, none⟩ = some (.int .i64 a0_2) := (blk_cell BK221.out 2).trans rfl
   have hfz9_0 := blk_frozen BK221.out 0
   have hfz9_1 := blk_frozen BK221.out 1
   have hfz9_2 := blk_frozen BK221.out 2
   go_wp2_with (first | ((with_reducible refine gate_callee (f := 142) rfl ?_); refine goesL_ (some 10) rfl rfl Try.func142 (by kernel_rfl) rfl #[.agg #[.string a0_0, .string a0_1, .int .i64 a0_2]] rfl aM_ ?_; (with_reducible refine (spec_HasherOk.calls a0_0 a0_1 a0_2 true _ A6.out).mono ?_); rintro e w10 ⟨rfl, hb⟩; refine ⟨_, rfl, ?_⟩; have n_ := b_ (blk_below (g := gb221) (o := .cells #[.string a0_0, .string a0_1, .int .i64 a0_2] 133 (0, 0)) (rK_ BK221.out) hb) <| b_ (blk_below (g := gb222) (o := .cells #[.string (⟨#[]⟩ : ByteArray), .string (⟨#[]⟩ : ByteArray), .int .i64 0] 133 (0, 0)) (rK_ BK222.out) hb) <| c_ (below_step ((u4_ GE221.out GE222.out)) hb); clear BK221 BK222 HB; obtain ⟨BK221, BK222, HB⟩ := n_; have hcz11_0 : w10.cell? ⟨gb221, 0, none⟩ = some (.string a0_0) := (blk_cell BK221.out 0).trans rfl; have hcz11_1 : w10.cell? ⟨gb221, 1, none⟩ = some (.string a0_1) := (blk_cell BK221.out 1).trans rfl; have hcz11_2 : w10.cell? ⟨gb221, 2, none⟩ = some (.int .i64 a0_2) := (blk_cell BK221.out 2).trans rfl; have hfz11_0 := blk_frozen BK221.out 0; have hfz11_1 := blk_frozen BK221.out 1; have hfz11_2 := blk_frozen BK221.out 2))
   go_meet
   case rel => exact ⟨_, (decide ((wrap64 (a0_2 + (a1.size : Int))) > 1000000000)), (by first | rfl | (simp; done) | (simp [*]; done)), H', ⟨by first | omega | exact Nat.le_refl _⟩, ⟨by refine kK_ ?_; exact BK221.out⟩, ⟨by refine kK_ ?_; exact BK222.out⟩, ⟨(u4_ GE221.out GE222.out)⟩⟩
  ·replace c7 := Bool.eq_false_iff.mpr c7
   subst c7
   replace H := iF_ H
   have H' := Aside0.mk H
   clear H
   have hnb12 := NB221_222.out
   have hnc12 := NB222_221.out
   have hcz13_0 : w5.cell? ⟨gb221, 0, none⟩ = some (.string a0_0) := (blk_cell BK221.out 0).trans rfl
   have hcz13_1 : w5.cell? ⟨gb221, 1, none⟩ = some (.string a0_1) := (blk_cell BK221.out 1).trans rfl
   have hcz13_2 : w5.cell? ⟨gb221, 2, none⟩ = some (.int .i64 a0_2) := (blk_cell BK221.out 2).trans rfl
   have hfz13_0 := blk_frozen BK221.out 0
   have hfz13_1 := blk_frozen BK221.out 1
   have hfz13_2 := blk_frozen BK221.out 2
   go_wp2_with (first | ((with_reducible refine gate_callee (f := 142) rfl ?_); refine goesL_ (some 10) rfl rfl Try.func142 (by kernel_rfl) rfl #[.agg #[.string a0_0, .string a0_1, .int .i64 a0_2]] rfl aM_ ?_; (with_reducible refine (spec_HasherOk.calls a0_0 a0_1 a0_2 false _ A6.out).mono ?_); rintro e w14 ⟨rfl, hb⟩; refine ⟨_, rfl, ?_⟩; have n_ := b_ (blk_below (g := gb221) (o := .cells #[.string a0_0, .string a0_1, .int .i64 a0_2] 133 (0, 0)) (rK_ BK221.out) hb) <| b_ (blk_below (g := gb222) (o := .cells #[.string (⟨#[]⟩ : ByteArray), .string (⟨#[]⟩ : ByteArray), .int .i64 0] 133 (0, 0)) (rK_ BK222.out) hb) <| c_ (below_step ((u4_ GE221.out GE222.out)) hb); clear BK221 BK222 HB; obtain ⟨BK221, BK222, HB⟩ := n_; (try clear hb)))
   go_meet
   case rel => exact ⟨_, (true), (by first | rfl | (simp; done) | (simp [*]; done)), H', ⟨by first | omega | exact Nat.le_refl _⟩, ⟨by refine kK_ ?_; exact BK221.out⟩, ⟨by refine kK_ ?_; exact BK222.out⟩, ⟨(u4_ GE221.out GE222.out)⟩⟩
 case rest =>
  clear HC3
  obtain ⟨kq, x19_2, rfl, HA, HJ2, BK221, BK222, HB⟩ := hcut
  cases kq with
  | zero => exact absurd HA.out (by simp [spec_HashMore.j0])
  | succ kj2 =>
   have H := HA.out
   clear HA
   simp only [spec_HashMore.j0] at H
   by_cases c15 : x19_2 = true
   ·subst c15
    replace H := iT_ H
    simp only [Option.some.injEq, Prod.mk.injEq] at H
    obtain ⟨rfl, rfl, rfl⟩ := H
    have hnb16 := NB221_222.out
    have hnc16 := NB222_221.out
    have hcz17_0 : wc.cell? ⟨gb221, 0, none⟩ = some (.string a0_0) := (blk_cell BK221.out 0).trans rfl
    have hcz17_1 : wc.cell? ⟨gb221, 1, none⟩ = some (.string a0_1) := (blk_cell BK221.out 1).trans rfl
    have hcz17_2 : wc.cell? ⟨gb221, 2, none⟩ = some (.int .i64 a0_2) := (blk_cell BK221.out 2).trans rfl
    have hfz17_0 := blk_frozen BK221.out 0
    have hfz17_1 := blk_frozen BK221.out 1
    have hfz17_2 := blk_frozen BK221.out 2
    have hcz18_0 : wc.cell? ⟨gb222, 0, none⟩ = some (.string (⟨#[]⟩ : ByteArray)) := (blk_cell BK222.out 0).trans rfl
    have hcz18_1 : wc.cell? ⟨gb222, 1, none⟩ = some (.string (⟨#[]⟩ : ByteArray)) := (blk_cell BK222.out 1).trans rfl
    have hcz18_2 : wc.cell? ⟨gb222, 2, none⟩ = some (.int .i64 0) := (blk_cell BK222.out 2).trans rfl
    have hfz18_0 := blk_frozen BK222.out 0
    have hfz18_1 := blk_frozen BK222.out 1
    have hfz18_2 := blk_frozen BK222.out 2
    go_wp2
    refine bodyPost_ret (results_cell_row rfl _ _ gb222 133 #[.string a0_0, .string a0_1, .int .i64 a0_2] (0, 0) _ rfl (by refine kK_ ?_; refine blk_put (cs := #[.string a0_0, .string a0_1, .int .i64 0]) ?_ 2 _ rfl; refine kK_ ?_; refine blk_put (cs := #[.string a0_0, .string (⟨#[]⟩ : ByteArray), .int .i64 0]) ?_ 1 _ rfl; refine kK_ ?_; refine blk_put (cs := #[.string (⟨#[]⟩ : ByteArray), .string (⟨#[]⟩ : ByteArray), .int .i64 0]) ?_ 0 _ rfl; exact rK_ BK222.out) Try.underlying133 rfl (by kernel_rfl)) rfl ?_
    exact ⟨by first | rfl | (simp [errW_none, errW_some] <;> rfl) | (simp [*, errW_none, errW_some] <;> rfl), (u4_ GE221.out GE222.out)⟩
   ·replace c15 := Bool.eq_false_iff.mpr c15
    subst c15
    replace H := iF_ H
    obtain ⟨t224, A19, H⟩ := bN_ H
    obtain ⟨t227, A20, H⟩ := bN_ H
    obtain ⟨c21, H⟩ := iN_ H
    have c21b0 := eq_true c21
    have c21b1 := decide_eq_true c21
    try have c21b2 : (9223372036854775807 < a0_1.size + a1.size) = False := eq_false (Nat.not_lt.2 c21)
    obtain ⟨bf_, hbf_⟩ : ∃ y_ : ByteArray, y_ = a0_1 ++ a1 := ⟨_, rfl⟩
    rw [← hbf_] at H
    have HBF_ := Aside0.mk hbf_
    clear hbf_
    have H' := Aside0.mk H
    clear H
    have hnb22 := NB221_222.out
    have hnc22 := NB222_221.out
    have hcz23_0 : wc.cell? ⟨gb221, 0, none⟩ = some (.string a0_0) := (blk_cell BK221.out 0).trans rfl
    have hcz23_1 : wc.cell? ⟨gb221, 1, none⟩ = some (.string a0_1) := (blk_cell BK221.out 1).trans rfl
    have hcz23_2 : wc.cell? ⟨gb221, 2, none⟩ = some (.int .i64 a0_2) := (blk_cell BK221.out 2).trans rfl
    have hfz23_0 := blk_frozen BK221.out 0
    have hfz23_1 := blk_frozen BK221.out 1
    have hfz23_2 := blk_frozen BK221.out 2
    go_wp2_with (first | ((with_reducible refine gate_callee (f := 143) rfl ?_); refine goesL_ (some 23) rfl rfl Try.func143 (by kernel_rfl) rfl #[.string a0_0] rfl aM_ ?_; (with_reducible refine (spec_l05Words.calls kj2 a0_0 t224 _ A19.out).mono ?_); rintro e w24 ⟨v225, rfl, ho0, hb⟩; refine ⟨_, rfl, ?_⟩; have n_ := b_ (Kd.R_lower ho0 (below_size ((u4_ GE221.out GE222.out)))) <| b_ (blk_below (g := gb221) (o := .cells #[.string a0_0, .string a0_1, .int .i64 a0_2] 133 (0, 0)) (rK_ BK221.out) hb) <| b_ (blk_below (g := gb222) (o := .cells #[.string (⟨#[]⟩ : ByteArray), .string (⟨#[]⟩ : ByteArray), .int .i64 0] 133 (0, 0)) (rK_ BK222.out) hb) <| c_ (below_step ((u4_ GE221.out GE222.out)) hb); clear BK221 BK222 HB; obtain ⟨HO226, BK221, BK222, HB⟩ := n_; (try clear ho0)) | ((with_reducible refine gate_callee (f := 144) rfl ?_); refine goesL_ (some 24) rfl rfl Try.func144 (by kernel_rfl) rfl #[] rfl aM_ ?_; (with_reducible refine (spec_l05K.calls  t227 _ A20.out).mono ?_); rintro e w25 ⟨v228, rfl, ho0, hb⟩; refine ⟨_, rfl, ?_⟩; have n_ := b_ (Kd.R_elder' (rR_ HO226.out) (Kd.R_base ho0) hb) <| b_ (Kd.R_lower (Kd.R_new' ho0 (Kd.R_lt (rR_ HO226.out))) (below_size ((u4_ GE221.out GE222.out)))) <| b_ (blk_below (g := gb221) (o := .cells #[.string a0_0, .string a0_1, .int .i64 a0_2] 133 (0, 0)) (rK_ BK221.out) hb) <| b_ (blk_below (g := gb222) (o := .cells #[.string (⟨#[]⟩ : ByteArray), .string (⟨#[]⟩ : ByteArray), .int .i64 0] 133 (0, 0)) (rK_ BK222.out) hb) <| c_ (below_step ((u4_ GE221.out GE222.out)) hb); clear HO226 BK221 BK222 HB; obtain ⟨HO226, HO229, BK221, BK222, HB⟩ := n_; have hcz26_0 : w25.cell? ⟨gb221, 0, none⟩ = some (.string a0_0) := (blk_cell BK221.out 0).trans rfl; have hcz26_1 : w25.cell? ⟨gb221, 1, none⟩ = some (.string a0_1) := (blk_cell BK221.out 1).trans rfl; have hcz26_2 : w25.cell? ⟨gb221, 2, none⟩ = some (.int .i64 a0_2) := (blk_cell BK221.out 2).trans rfl; have hfz26_0 := blk_frozen BK221.out 0; have hfz26_1 := blk_frozen BK221.out 1; have hfz26_2 := blk_frozen BK221.out 2))
    rw [← HBF_.out]
    go_loopg [5, 8] kj2 (fun kq v5 v8 w' => ∃ (x5_2 : List Int) (x8_2 : Int), v8 = .int .i64 x8_2 ∧ Aside0 (spec_HashMore.l0 kq a1 x5_2 t227 bf_ x8_2 a0_0 a0_1 a0_2 = some (r1, r2, r3)) ∧ Aside0 (kq ≤ kj2) ∧ Aside0 (Kd.R (Kd.int .u32) 142 w' w.heap.size (fun k_ => some k_ ≠ (v228 : Value).ownBlock) v5 x5_2) ∧ Aside0 (Kd.R (Kd.int .u32) 142 w' w.heap.size (fun k_ => some k_ ≠ (v5 : Value).ownBlock) v228 t227) ∧ Aside0 (w'.heap[gb221]? = some (.cells #[.string a0_0, .string a0_1, .int .i64 a0_2] 133 (0, 0))) ∧ Aside0 (w'.heap[gb222]? = some (.cells #[.string (⟨#[]⟩ : ByteArray), .string (⟨#[]⟩ : ByteArray), .int .i64 0] 133 (0, 0))) ∧ Aside0 (Below w.heap.size w w'))
    case atStart => exact ⟨(t224), (0), (by first | rfl | (simp; done) | (simp [*]; done)), H', ⟨Nat.le_refl _⟩, ⟨by refine kR_ ?_; exact Kd.R_mono HO226.out (fun _ hk => hk.2)⟩, ⟨by refine kR_ ?_; exact Kd.R_mono HO229.out (fun _ hk => hk.2)⟩, ⟨by refine kK_ ?_; exact BK221.out⟩, ⟨by refine kK_ ?_; exact BK222.out⟩, ⟨(u4_ GE221.out GE222.out)⟩⟩
    case round =>
     clear H'
     obtain ⟨x5_2, x8_2, rfl, HA, HK2, HO_5, HO_6, BK221, BK222, HB⟩ := hrel
     cases gk with
     | zero => exact absurd HA.out (by simp [spec_HashMore.l0])
     | succ k2 =>
      have H := HA.out
      clear HA
      simp only [spec_HashMore.l0] at H
      by_cases c27 : (wrap64 (x8_2 + 64)) ≤ (bf_.size : Int)
      ·rw [if_pos c27] at H
       have c27b0 := decide_eq_true c27
       clear c27
       obtain ⟨c28, H⟩ := iN_ H
       have c28b0 := eq_true c28
       have c28b1 := decide_eq_true c28
       clear c28
       obtain ⟨c29, H⟩ := iN_ H
       have c29b0 := eq_true c29
       have c29b1 := decide_eq_true c29
       have c30b0 := eq_true (of_decide_eq_true (by first | (with_reducible assumption) | assumption) : (wrap64 (x8_2 + 64)) ≤ (bf_.size : Int))
       obtain ⟨t230, A31, H⟩ := bN_ H
       have H' := Aside0.mk H
       clear H
       obtain ⟨Ao32, co32, eo32⟩ := Kd.R_slice HO_5.out
       subst eo32
       obtain ⟨Ao33, co33, eo33⟩ := Kd.R_slice HO_6.out
       subst eo33
       go_wp2_with (first | ((with_reducible refine gate_callee (f := 145) rfl ?_); refine goesL_ (some 41) rfl rfl Try.func145 (by kernel_rfl) rfl #[.slice Ao32 x5_2.length co32, .slice Ao33 t227.length co33, .string (bf_.extract (x8_2 : Int).toNat ((wrap64 (x8_2 + 64)) : Int).toNat)] rfl aM_ ?_; (with_reducible refine (spec_l05Round.calls k2 _ _ x5_2 _ _ t227 (bf_.extract (x8_2 : Int).toNat ((wrap64 (x8_2 + 64)) : Int).toNat) t230 _ ?side1 ?side2 ?side3 ?side4 A31.out).mono ?_); (case side1 => exact cR_ (Kd.R_reads' HO_5.out).2.2); (case side2 => exact (Kd.R_reads' HO_5.out).2.1); (case side3 => exact cR_ (Kd.R_reads' HO_6.out).2.2); (case side4 => exact (Kd.R_reads' HO_6.out).2.1); rintro e w34 ⟨v231, rfl, ho0, hb⟩; refine ⟨_, rfl, ?_⟩; have n_ := b_ (Kd.R_elder' (rR_ HO_5.out) (Kd.R_base ho0) hb) <| b_ (Kd.R_elder' (rR_ HO_6.out) (Kd.R_base ho0) hb) <| b_ (Kd.R_lower (Kd.R_new' (Kd.R_new' ho0 (Kd.R_lt (rR_ HO_5.out))) (Kd.R_lt (rR_ HO_6.out))) (below_size ((u4_ GE221.out GE222.out)))) <| b_ (blk_below (g := gb221) (o := .cells #[.string a0_0, .string a0_1, .int .i64 a0_2] 133 (0, 0)) (rK_ BK221.out) hb) <| b_ (blk_below (g := gb222) (o := .cells #[.string (⟨#[]⟩ : ByteArray), .string (⟨#[]⟩ : ByteArray), .int .i64 0] 133 (0, 0)) (rK_ BK222.out) hb) <| c_ (below_step ((u4_ GE221.out GE222.out)) hb); clear HO_5 HO_6 BK221 BK222 HB; obtain ⟨HO_5, HO_6, HO232, BK221, BK222, HB⟩ := n_; (try clear ho0)))
       go_roundg k2
       case measure => have := HJ2.out; have := HK2.out; omega
       case rel => exact ⟨(t230), (wrap64 (x8_2 + 64)), (by first | rfl | (simp; done) | (simp [*]; done)), H', ⟨by have := HJ2.out; have := HK2.out; omega⟩, ⟨by refine kR_ ?_; exact Kd.R_mono HO232.out (fun _ hk => hk.2)⟩, ⟨by refine kR_ ?_; exact Kd.R_mono HO_6.out (fun _ hk => hk.2)⟩, ⟨by refine kK_ ?_; exact BK221.out⟩, ⟨by refine kK_ ?_; exact BK222.out⟩, ⟨(u4_ GE221.out GE222.out)⟩⟩
      rw [if_neg c27] at H
      have c27b0 := decide_eq_false c27
      clear c27
      obtain ⟨t233, A35, H⟩ := bN_ H
      obtain ⟨c36, H⟩ := iN_ H
      have c36b0 := eq_true c36
      have c36b1 := decide_eq_true c36
      clear c36
      obtain ⟨c37, H⟩ := iN_ H
      have c37b0 := eq_true c37
      have c37b1 := decide_eq_true c37
      simp only [Option.some.injEq, Prod.mk.injEq] at H
      obtain ⟨rfl, rfl, rfl⟩ := H
      try go_wp2
      have n_ := b_ (Kd.R_drew HO_5.out) <| b_ (Kd.R_drew HO_6.out) <| b_ (blk_drew BK221.out) <| b_ (blk_drew BK222.out) <| c_ (below_drew1 HB.out)
      clear HO_5 HO_6 BK221 BK222 HB
      obtain ⟨HO_5, HO_6, BK221, BK222, HB⟩ := n_
      obtain ⟨Ao39, co39, eo39⟩ := Kd.R_slice HO_5.out
      (first | subst eo39 | (injection eo39 with f1_ f2_ f3_; have f4_ := f1_.symm; have f5_ := f3_.symm; clear f1_ f2_ f3_; subst f4_; subst f5_))
      refine start_ (n := 12) (S := fun w' => w'.cell? ⟨gb221, 0, none⟩ = some (.string a0_0) ∧ w'.cell? ⟨gb221, 1, none⟩ = some (.string a0_1) ∧ w'.cell? ⟨gb221, 2, none⟩ = some (.int .i64 a0_2)) (ds := []) (bb_ 12 0) (by kernel_rfl) rfl rfl ⟨(blk_cell BK221.out 0).trans rfl, (blk_cell BK221.out 1).trans rfl, (blk_cell BK221.out 2).trans rfl⟩ (fun hHeld => ?_); refine with_tabW spec_HashMore.tab10 spec_HashMore.bits10 (fun HT_ HW_ => ?_)
      generalize wr.drew = w38 at HO_5 HO_6 BK221 BK222 HB hHeld ⊢
      refine pS_ 0 44 (bb_ 12 1) HT_.out ?_
      refine pS_ 2 46 (bb_ 12 5) HT_.out ?_
      refine pS_ 3 47 (bb_ 12 13) HT_.out ?_
      refine pS_ 4 48 (bb_ 12 29) HT_.out ?_
      refine pS_ 5 49 (bb_ 12 61) HT_.out ?_
      refine pS_ 7 51 (bb_ 12 189) HT_.out ?_
      refine pS_ 8 52 (bb_ 12 445) HT_.out ?_
      refine tS_ 6 50 (bb_ 12 509) (take_ofW HT_.out HW_.out (by kernel_rfl)) hHeld ?_
      refine pS_ 9 53 (bb_ 12 1021) HT_.out ?_
      refine one_ (i := 1) (N := some 45) (bb_ 12 1023) rfl rfl (one_of HT_.out (by kernel_rfl)) (by decide) (fun K hK => ?_)
      refine goes_ Try.func146 (by kernel_rfl) rfl #[.slice Ao39 x5_2.length co39] (by rfl) rfl rfl aM_ ?_
      with_reducible refine (spec_l05Bytes.calls k2 _ _ x5_2 t233 _ ?side1 ?side2 A35.out).mono ?_
      (case side1 => exact cR_ (Kd.R_reads' HO_5.out).2.2)
      (case side2 => exact (Kd.R_reads' HO_5.out).2.1)
      rintro e w40 ⟨rfl, hb⟩
      refine ⟨_, rfl, ?_⟩
      have n_ := b_ (Kd.R_below (rR_ HO_5.out) hb) <| b_ (Kd.R_below (rR_ HO_6.out) hb) <| b_ (blk_below (g := gb221) (o := .cells #[.string a0_0, .string a0_1, .int .i64 a0_2] 133 (0, 0)) (rK_ BK221.out) hb) <| b_ (blk_below (g := gb222) (o := .cells #[.string (⟨#[]⟩ : ByteArray), .string (⟨#[]⟩ : ByteArray), .int .i64 0] 133 (0, 0)) (rK_ BK222.out) hb) <| c_ (below_step ((u4_ GE221.out GE222.out)) hb)
      clear HO_5 HO_6 BK221 BK222 HB
      obtain ⟨HO_5, HO_6, BK221, BK222, HB⟩ := n_
      refine hK.out _ _ ⟨(blk_cell BK221.out 0).trans rfl, (blk_cell BK221.out 1).trans rfl, (blk_cell BK221.out 2).trans rfl⟩ (fun hHeld => ?_)
      clear hK K
      refine norm_ (a' := ?_) ?_ ?_
      rotate_left
      ·show Act.put _ (some 45) _ = _
       simp only [Act.put, List.setIfInBounds_toArray, List.set_cons_zero, List.set_cons_succ, i64_w, i32_w]
       rfl
      refine pS_ 10 54 (bb_ 12 2047) HT_.out ?_
      refine one_ (i := 11) (N := none) (bb_ 12 4095) rfl rfl (one_of HT_.out (by kernel_rfl)) (by decide) (fun K hK => ?_)
      have hs41 : w40.cell? ⟨gb222, 0, none⟩ = some (.string (⟨#[]⟩ : ByteArray)) := (blk_cell BK222.out 0).trans rfl
      have hfs41 := blk_frozen BK222.out 0
      have hns41_0 := NB221_222.out
      have hms41_0 := NB222_221.out
      have hs42 : w40.cell? ⟨gb222, 1, none⟩ = some (.string (⟨#[]⟩ : ByteArray)) := (blk_cell BK222.out 1).trans rfl
      have hfs42 := blk_frozen BK222.out 1
      have hns42_0 := NB221_222.out
      have hms42_0 := NB222_221.out
      have hs43 : w40.cell? ⟨gb222, 2, none⟩ = some (.int .i64 0) := (blk_cell BK222.out 2).trans rfl
      have hfs43 := blk_frozen BK222.out 2
      have hns43_0 := NB221_222.out
      have hms43_0 := NB222_221.out
      refine skip_ (w1 := ?_) (by rfl) rfl ?_ ?_
      rotate_left
      ·go_simp
       rfl
      refine hK.out _ _ ⟨((cell_far (p := ⟨gb222, _, none⟩) NB221_222.out _).trans (((cell_far (p := ⟨gb222, _, none⟩) NB221_222.out _).trans (((cell_far (p := ⟨gb222, _, none⟩) NB221_222.out _).trans (hHeld.1)))))), ((cell_far (p := ⟨gb222, _, none⟩) NB221_222.out _).trans (((cell_far (p := ⟨gb222, _, none⟩) NB221_222.out _).trans (((cell_far (p := ⟨gb222, _, none⟩) NB221_222.out _).trans (hHeld.2.1)))))), ((cell_far (p := ⟨gb222, _, none⟩) NB221_222.out _).trans (((cell_far (p := ⟨gb222, _, none⟩) NB221_222.out _).trans (((cell_far (p := ⟨gb222, _, none⟩) NB221_222.out _).trans (hHeld.2.2))))))⟩ (fun hHeld => ?_)
      clear hK K
      refine done_ (done_of HT_.out (by kernel_rfl)) ?_
      try go_wp2
      refine bodyPost_ret (results_cell_row rfl _ _ gb222 133 #[.string t233, .string (bf_.extract (x8_2 : Int).toNat bf_.size), .int .i64 (wrap64 (a0_2 + (a1.size : Int)))] (0, 0) _ rfl (by refine kK_ ?_; refine blk_put (cs := #[.string t233, .string (bf_.extract (x8_2 : Int).toNat bf_.size), .int .i64 0]) ?_ 2 _ rfl; refine kK_ ?_; refine blk_put (cs := #[.string t233, .string (⟨#[]⟩ : ByteArray), .int .i64 0]) ?_ 1 _ rfl; refine kK_ ?_; refine blk_put (cs := #[.string (⟨#[]⟩ : ByteArray), .string (⟨#[]⟩ : ByteArray), .int .i64 0]) ?_ 0 _ rfl; exact rK_ BK222.out) Try.underlying133 rfl (by kernel_rfl)) rfl ?_
      exact ⟨by first | rfl | (simp [errW_none, errW_some] <;> rfl) | (simp [*, errW_none, errW_some] <;> rfl), (u4_ GE221.out GE222.out)⟩

/-! ### spec_l05First: function 147 -/
def spec_l05First.f  : Option (List Int) := some (([1779033703, 3144134277, 1013904242, 2773480762, 1359893119, 2600822924, 528734635, 1541459225] : List Int))
theorem spec_l05First.calls  (r : List Int) (w : World) (h : spec_l05First.f  = some r) :
  Calls Try.prog 147 #[] w fun e w' => ∃ v0_ : Value, e = .returned (v0_) ∧ Kd.R (Kd.int .u32) 142 w' w.heap.size (fun _ => True) v0_ r ∧ Below w.heap.size w w' := by
 have HB := Aside0.mk (Below.refl w.heap.size w)
 delta spec_l05First.f at h
 have H := h
 clear h
 obtain ⟨y234, hy234⟩ : ∃ y_ : List Int, y_ = (([1779033703, 3144134277, 1013904242, 2773480762, 1359893119, 2600822924, 528734635, 1541459225] : List Int)) := ⟨_, rfl⟩
 first | replace H := yb_ hy234 H | rw [← hy234] at H
 have Ny234 := Aside0.mk hy234
 clear hy234
 obtain rfl := Option.some.inj H
 go_enter Try.func147, Try.ntmps147
 go_wp2_with (first | ((with_reducible refine gate_dst (N := 1) rfl ?_); refine Kd.R_lit (Kd.int .u32) _ 142 ?hg (N := 1) ?hd (xs := ([1779033703, 3144134277, 1013904242, 2773480762, 1359893119, 2600822924, 528734635, 1541459225] : List Int)) (inner := [.int .u32 1779033703, .int .u32 3144134277, .int .u32 1013904242, .int .u32 2773480762, .int .u32 1359893119, .int .u32 2600822924, .int .u32 528734635, .int .u32 1541459225]) (ok := fun _ => True) (okp := fun _ => True) ?hr ?hp (fun _ hk => hk) trivial (Below.refl _ _) (Nat.le_refl _) (by simp) ?_; (case hd => rfl); (case hg => rfl); (case hr => first | (go_simp; done) | (go_simp; rfl)); (case hp => exact (Reps.one (show Kd.M (Kd.int .u32) _ _ _ 1779033703 [.int .u32 1779033703] from rfl) (Reps.one (show Kd.M (Kd.int .u32) _ _ _ 3144134277 [.int .u32 3144134277] from rfl) (Reps.one (show Kd.M (Kd.int .u32) _ _ _ 1013904242 [.int .u32 1013904242] from rfl) (Reps.one (show Kd.M (Kd.int .u32) _ _ _ 2773480762 [.int .u32 2773480762] from rfl) (Reps.one (show Kd.M (Kd.int .u32) _ _ _ 1359893119 [.int .u32 1359893119] from rfl) (Reps.one (show Kd.M (Kd.int .u32) _ _ _ 2600822924 [.int .u32 2600822924] from rfl) (Reps.one (show Kd.M (Kd.int .u32) _ _ _ 528734635 [.int .u32 528734635] from rfl) (Reps.one (show Kd.M (Kd.int .u32) _ _ _ 1541459225 [.int .u32 1541459225] from rfl) (Reps.none _ _)))))))))); intro v235 w1 ho2 hb hg_ hnew_; clear hg_ hnew_; (first | rw [← Ny234.out] at ho2 | (simp only [Int.reduceToNat] at ho2; rw [← Ny234.out] at ho2)); have n_ := b_ (Kd.R_lower ho2 (below_size (hB_))) <| c_ (below_step (hB_) hb); clear HB; obtain ⟨HO236, HB⟩ := n_; clear hb ho2))
 go_ret
 exact ⟨_, by first | rfl | (simp [errW_none, errW_some] <;> rfl) | (simp [*, errW_none, errW_some] <;> rfl), rR_ HO236.out, hB_⟩

/-! ### spec_HasherNew: function 141 -/
def spec_HasherNew.f (k : Nat)  : Option (ByteArray × ByteArray × Int) := (spec_l05First.f).bind fun t238 => ((spec_l05Bytes.f k t238).bind fun t241 => (some (t241, (⟨#[]⟩ : ByteArray), 0)))
theorem spec_HasherNew.mono : ∀ k, LeO (spec_HasherNew.f k ) (spec_HasherNew.f (k + 1) ) := by
 intro  k
 unfold spec_HasherNew.f
 exact o1_ spec_l05Bytes.mono
theorem spec_HasherNew.calls (k : Nat)  (r1 : ByteArray) (r2 : ByteArray) (r3 : Int) (w : World) (h : spec_HasherNew.f k  = some (r1, r2, r3)) :
  Calls Try.prog 141 #[] w fun e w' => e = .returned (.agg #[.string r1, .string r2, .int .i64 r3]) ∧ Below w.heap.size w w' := by
 have hu133 := Try.underlying133
 have HB := Aside0.mk (Below.refl w.heap.size w)
 delta spec_HasherNew.f at h
 have H := h
 clear h
 obtain ⟨t238, A1, H⟩ := bN_ H
 obtain ⟨t241, A2, H⟩ := bN_ H
 simp only [Option.some.injEq, Prod.mk.injEq] at H
 obtain ⟨rfl, rfl, rfl⟩ := H
 go_enter Try.func141, Try.ntmps141
 go_wp2_with (first | ((with_reducible refine gate_dst (N := 0) rfl ?_); refine box_event ?hg (N := 0) ?hd (cs := #[.string (⟨#[]⟩ : ByteArray), .string (⟨#[]⟩ : ByteArray), .int .i64 0]) (t := 133) ?hr ?_; (case hd => rfl); (case hg => rfl); (case hr => first | (go_simp; done) | (go_simp; rfl)); intro gb237 hg w3 hbox hb; have n_ := b_ (below_step (hB_) hb) <| b_ (hbox) <| b_ (by rw [hg]; exact (below_size (hB_)) : w.heap.size ≤ gb237) <| c_ (by rw [hg]; exact (below_size (hB_)) : w.heap.size ≤ gb237); clear HB; obtain ⟨HB, BK237, GW237, GE237⟩ := n_; clear hb hbox hg) | ((with_reducible refine gate_callee (f := 147) rfl ?_); refine goesL_ (some 1) rfl rfl Try.func147 (by kernel_rfl) rfl #[] rfl aM_ ?_; (with_reducible refine (spec_l05First.calls  t238 _ A1.out).mono ?_); rintro e w4 ⟨v239, rfl, ho0, hb⟩; refine ⟨_, rfl, ?_⟩; have n_ := b_ (Kd.R_lower ho0 (below_size (hS_ GE237.out))) <| b_ (blk_below (g := gb237) (o := .cells #[.string (⟨#[]⟩ : ByteArray), .string (⟨#[]⟩ : ByteArray), .int .i64 0] 133 (0, 0)) (rK_ BK237.out) hb) <| c_ (below_step (hS_ GE237.out) hb); clear BK237 HB; obtain ⟨HO240, BK237, HB⟩ := n_; obtain ⟨Ao5, co5, eo5⟩ := Kd.R_slice HO240.out; subst eo5) | ((with_reducible refine gate_callee (f := 146) rfl ?_); refine goesL_ (some 2) rfl rfl Try.func146 (by kernel_rfl) rfl #[.slice Ao5 t238.length co5] rfl aM_ ?_; (with_reducible refine (spec_l05Bytes.calls k _ _ t238 t241 _ ?side1 ?side2 A2.out).mono ?_); (case side1 => exact cR_ (Kd.R_reads' HO240.out).2.2); (case side2 => exact (Kd.R_reads' HO240.out).2.1); rintro e w6 ⟨rfl, hb⟩; refine ⟨_, rfl, ?_⟩; have n_ := b_ (Kd.R_below (rR_ HO240.out) hb) <| b_ (blk_below (g := gb237) (o := .cells #[.string (⟨#[]⟩ : ByteArray), .string (⟨#[]⟩ : ByteArray), .int .i64 0] 133 (0, 0)) (rK_ BK237.out) hb) <| c_ (below_step (hS_ GE237.out) hb); clear HO240 BK237 HB; obtain ⟨HO240, BK237, HB⟩ := n_; have hcz7_0 : w6.cell? ⟨gb237, 0, none⟩ = some (.string (⟨#[]⟩ : ByteArray)) := (blk_cell BK237.out 0).trans rfl; have hcz7_1 : w6.cell? ⟨gb237, 1, none⟩ = some (.string (⟨#[]⟩ : ByteArray)) := (blk_cell BK237.out 1).trans rfl; have hcz7_2 : w6.cell? ⟨gb237, 2, none⟩ = some (.int .i64 0) := (blk_cell BK237.out 2).trans rfl; have hfz7_0 := blk_frozen BK237.out 0; have hfz7_1 := blk_frozen BK237.out 1; have hfz7_2 := blk_frozen BK237.out 2))
 refine bodyPost_ret (results_cell_row rfl _ _ gb237 133 #[.string t241, .string (⟨#[]⟩ : ByteArray), .int .i64 0] (0, 0) _ rfl (by refine kK_ ?_; refine blk_put (cs := #[.string t241, .string (⟨#[]⟩ : ByteArray), .int .i64 0]) ?_ 2 _ rfl; refine kK_ ?_; refine blk_put (cs := #[.string t241, .string (⟨#[]⟩ : ByteArray), .int .i64 0]) ?_ 1 _ rfl; refine kK_ ?_; refine blk_put (cs := #[.string (⟨#[]⟩ : ByteArray), .string (⟨#[]⟩ : ByteArray), .int .i64 0]) ?_ 0 _ rfl; exact rK_ BK237.out) Try.underlying133 rfl (by kernel_rfl)) rfl ?_
 exact ⟨by first | rfl | (simp [errW_none, errW_some] <;> rfl) | (simp [*, errW_none, errW_some] <;> rfl), hS_ GE237.out⟩

/-! ### spec_SigOk: function 49 -/
mutual
def spec_SigOk.j0 : Nat → Bool → Int → List ByteArray → List ByteArray → Option (Bool)
 | 0, _, _, _, _ => none
 | k + 1, x20, x499000, x499001, x499002 => if x20 = true then (some false) else (spec_SigOk.l0 k 0 x499000 x499001 x499002)
def spec_SigOk.l0 : Nat → Int → Int → List ByteArray → List ByteArray → Option (Bool)
 | 0, _, _, _, _ => none
 | k + 1, x3, x499000, x499001, x499002 => if x3 < (x499001.length : Int) then (if 0 ≤ x3 then (if ((rdOf ByteArray.empty x499001 x3).size : Int) = 4 then (spec_SigOk.l0 k (wrap64 (x3 + 1)) x499000 x499001 x499002) else (some false)) else (none)) else (spec_SigOk.l1 k 0 x499000 x499001 x499002)
def spec_SigOk.l1 : Nat → Int → Int → List ByteArray → List ByteArray → Option (Bool)
 | 0, _, _, _, _ => none
 | k + 1, x4, x499000, x499001, x499002 => if x4 < (x499002.length : Int) then (if 0 ≤ x4 then (if ((rdOf ByteArray.empty x499002 x4).size : Int) = 4 then (spec_SigOk.l1 k (wrap64 (x4 + 1)) x499000 x499001 x499002) else (some false)) else (none)) else (some true)
end
def spec_SigOk.f (k : Nat) (a0_0 : Int) (l0_1 : List ByteArray) (l0_2 : List ByteArray) : Option (Bool) := (spec_l01In.f a0_0 0 3).bind fun t499 => (if t499 = true then (if (l0_1.length : Int) = 10 then (spec_SigOk.j0 k ((l0_2.length : Int) != 2) a0_0 l0_1 l0_2) else (spec_SigOk.j0 k true a0_0 l0_1 l0_2)) else (spec_SigOk.j0 k true a0_0 l0_1 l0_2))
theorem spec_SigOk.mono_l : ∀ k, (∀ y0 y1 y2 y3, LeO (spec_SigOk.j0 k y0 y1 y2 y3) (spec_SigOk.j0 (k + 1) y0 y1 y2 y3)) ∧ (∀ y0 y1 y2 y3, LeO (spec_SigOk.l0 k y0 y1 y2 y3) (spec_SigOk.l0 (k + 1) y0 y1 y2 y3)) ∧ (∀ y0 y1 y2 y3, LeO (spec_SigOk.l1 k y0 y1 y2 y3) (spec_SigOk.l1 (k + 1) y0 y1 y2 y3))
 | 0 => ⟨fun _ _ _ _ r h => by simp [spec_SigOk.j0] at h, fun _ _ _ _ r h => by simp [spec_SigOk.l0] at h, fun _ _ _ _ r h => by simp [spec_SigOk.l1] at h⟩
 | k + 1 => by
  obtain ⟨ih0, ih1, ih2⟩ := spec_SigOk.mono_l k
  refine ⟨?_, ?_, ?_⟩ <;> (intros; (first | unfold spec_SigOk.j0 | unfold spec_SigOk.l0 | unfold spec_SigOk.l1); exact o3_ ih0 ih1 ih2)
theorem spec_SigOk.mono : ∀ a0 a1 a2 k, LeO (spec_SigOk.f k a0 a1 a2) (spec_SigOk.f (k + 1) a0 a1 a2) := by
 intro a0 a1 a2 k
 obtain ⟨ih0, ih1, ih2⟩ := spec_SigOk.mono_l k
 unfold spec_SigOk.f
 exact o3_ ih0 ih1 ih2
theorem spec_SigOk.calls (k : Nat) (a0_0 : Int) (A0_1 : Option Addr) (c0_1 : Nat) (l0_1 : List ByteArray) (A0_2 : Option Addr) (c0_2 : Nat) (l0_2 : List ByteArray) (r : Bool) (w : World) (hr0_1 : Kd.C Kd.string w A0_1 l0_1.length l0_1) (hc0_1 : l0_1.length ≤ c0_1) (hr0_2 : Kd.C Kd.string w A0_2 l0_2.length l0_2) (hc0_2 : l0_2.length ≤ c0_2) (h : spec_SigOk.f k a0_0 l0_1 l0_2 = some r) :
  Calls Try.prog 49 #[.agg #[.int .i64 a0_0, .slice A0_1 l0_1.length c0_1, .slice A0_2 l0_2.length c0_2]] w fun e w' => e = .returned (.bool r) ∧ Below w.heap.size w w' := by
 have hu37 := Try.underlying37
 have HR0_1 := Aside0.mk hr0_1
 have HC0_1 := Aside0.mk hc0_1
 clear hr0_1 hc0_1
 have HR0_2 := Aside0.mk hr0_2
 have HC0_2 := Aside0.mk hc0_2
 clear hr0_2 hc0_2
 have HB := Aside0.mk (Below.refl w.heap.size w)
 delta spec_SigOk.f at h
 have H := h
 clear h
 have HC2 := Aside0.mk H
 clear H
 go_enter Try.func49, Try.ntmps49
 go_upto_region 1 with (first | ((with_reducible refine gate_dst (N := 1) rfl ?_); (try (refine gate_guard (by rfl) ?_; dsimp only)); refine box_event ?hg (N := 1) ?hd (cs := #[.int .i64 a0_0, .slice A0_1 l0_1.length c0_1, .slice A0_2 l0_2.length c0_2]) (t := 37) ?hr ?_; (case hd => rfl); (case hg => rfl); (case hr => first | (go_simp; done) | (go_simp; rfl)); intro gb498 hg w3 hbox hb; have n_ := b_ (below_step (hB_) hb) <| b_ (hbox) <| b_ (by rw [hg]; exact (below_size (hB_)) : w.heap.size ≤ gb498) <| c_ (by rw [hg]; exact (below_size (hB_)) : w.heap.size ≤ gb498); clear HB; obtain ⟨HB, BK498, GW498, GE498⟩ := n_; clear hb hbox hg))
 (try simp only [Act.put, List.setIfInBounds_toArray, List.set_cons_zero, List.set_cons_succ])
 go_cut [20] (fun v20 wc => ∃ (kq : Nat) (x20_1 : Bool), v20 = .bool x20_1 ∧ Aside0 (spec_SigOk.j0 kq x20_1 a0_0 l0_1 l0_2 = some r) ∧ Aside0 (kq ≤ k) ∧ Aside0 (wc.heap[gb498]? = some (.cells #[.int .i64 a0_0, (.slice A0_1 l0_1.length c0_1), (.slice A0_2 l0_2.length c0_2)] 37 (0, 0))) ∧ Aside0 (Below w.heap.size w wc))
 case first =>
  have H := HC2.out
  clear HC2
  obtain ⟨t499, A4, H⟩ := bN_ H
  by_cases c5 : t499 = true
  ·subst c5
   replace H := iT_ H
   by_cases c6 : (l0_1.length : Int) = 10
   ·rw [if_pos c6] at H
    have c6b0 : ((l0_1.length : Int) == 10) = true := beq_iff_eq.mpr c6
    have c6b1 : ((l0_1.length : Int) != 10) = false := bne_eq_false_iff_eq.mpr c6
    clear c6
    (first | rw [c6b0] | (simp only [i64_w, i32_w]; rw [c6b0]) | skip)
    have H' := Aside0.mk H
    clear H
    have hcz7_0 : w3.cell? ⟨gb498, 0, none⟩ = some (.int .i64 a0_0) := (blk_cell BK498.out 0).trans rfl
    have hcz7_1 : w3.cell? ⟨gb498, 1, none⟩ = some (.slice A0_1 l0_1.length c0_1) := (blk_cell BK498.out 1).trans rfl
    have hcz7_2 : w3.cell? ⟨gb498, 2, none⟩ = some (.slice A0_2 l0_2.length c0_2) := (blk_cell BK498.out 2).trans rfl
    have hfz7_0 := blk_frozen BK498.out 0
    have hfz7_1 := blk_frozen BK498.out 1
    have hfz7_2 := blk_frozen BK498.out 2
    go_wp2_with (first | ((with_reducible refine gate_callee (f := 70) rfl ?_); refine goesL_ (some 7) rfl rfl Try.func70 (by kernel_rfl) rfl #[.int .i64 a0_0, .int .i64 0, .int .i64 3] rfl aM_ ?_; (with_reducible refine (spec_l01In.calls a0_0 0 3 true _ A4.out).mono ?_); rintro e w' ⟨rfl, ⟨nd, rfl⟩⟩; refine ⟨_, rfl, ?_⟩))
    go_meet
    case rel => exact ⟨_, (((l0_2.length : Int) != 2)), (by first | rfl | (simp; done) | (simp [*]; done)), H', ⟨by first | omega | exact Nat.le_refl _⟩, ⟨by refine kK_ ?_; exact BK498.out⟩, ⟨hS_ GE498.out⟩⟩
   rw [if_neg c6] at H
   have c6b0 : ((l0_1.length : Int) == 10) = false := beq_eq_false_iff_ne.mpr c6
   have c6b1 : ((l0_1.length : Int) != 10) = true := bne_iff_ne.mpr c6
   (first | rw [c6b0] | (simp only [i64_w, i32_w]; rw [c6b0]) | skip)
   have H' := Aside0.mk H
   clear H
   have hcz8_0 : w3.cell? ⟨gb498, 0, none⟩ = some (.int .i64 a0_0) := (blk_cell BK498.out 0).trans rfl
   have hcz8_1 : w3.cell? ⟨gb498, 1, none⟩ = some (.slice A0_1 l0_1.length c0_1) := (blk_cell BK498.out 1).trans rfl
   have hcz8_2 : w3.cell? ⟨gb498, 2, none⟩ = some (.slice A0_2 l0_2.length c0_2) := (blk_cell BK498.out 2).trans rfl
   have hfz8_0 := blk_frozen BK498.out 0
   have hfz8_1 := blk_frozen BK498.out 1
   have hfz8_2 := blk_frozen BK498.out 2
   go_wp2_with (first | ((with_reducible refine gate_callee (f := 70) rfl ?_); refine goesL_ (some 7) rfl rfl Try.func70 (by kernel_rfl) rfl #[.int .i64 a0_0, .int .i64 0, .int .i64 3] rfl aM_ ?_; (with_reducible refine (spec_l01In.calls a0_0 0 3 true _ A4.out).mono ?_); rintro e w' ⟨rfl, ⟨nd, rfl⟩⟩; refine ⟨_, rfl, ?_⟩))
   go_meet
   case rel => exact ⟨_, (true), (by first | rfl | (simp; done) | (simp [*]; done)), H', ⟨by first | omega | exact Nat.le_refl _⟩, ⟨by refine kK_ ?_; exact BK498.out⟩, ⟨hS_ GE498.out⟩⟩
  ·replace c5 := Bool.eq_false_iff.mpr c5
   subst c5
   replace H := iF_ H
   have H' := Aside0.mk H
   clear H
   have hcz9_0 : w3.cell? ⟨gb498, 0, none⟩ = some (.int .i64 a0_0) := (blk_cell BK498.out 0).trans rfl
   have hcz9_1 : w3.cell? ⟨gb498, 1, none⟩ = some (.slice A0_1 l0_1.length c0_1) := (blk_cell BK498.out 1).trans rfl
   have hcz9_2 : w3.cell? ⟨gb498, 2, none⟩ = some (.slice A0_2 l0_2.length c0_2) := (blk_cell BK498.out 2).trans rfl
   have hfz9_0 := blk_frozen BK498.out 0
   have hfz9_1 := blk_frozen BK498.out 1
   have hfz9_2 := blk_frozen BK498.out 2
   go_wp2_with (first | ((with_reducible refine gate_callee (f := 70) rfl ?_); refine goesL_ (some 7) rfl rfl Try.func70 (by kernel_rfl) rfl #[.int .i64 a0_0, .int .i64 0, .int .i64 3] rfl aM_ ?_; (with_reducible refine (spec_l01In.calls a0_0 0 3 false _ A4.out).mono ?_); rintro e w' ⟨rfl, ⟨nd, rfl⟩⟩; refine ⟨_, rfl, ?_⟩))
   go_meet
   case rel => exact ⟨_, (true), (by first | rfl | (simp; done) | (simp [*]; done)), H', ⟨by first | omega | exact Nat.le_refl _⟩, ⟨by refine kK_ ?_; exact BK498.out⟩, ⟨hS_ GE498.out⟩⟩
 case rest =>
  clear HC2
  obtain ⟨kq, x20_1, rfl, HA, HJ1, BK498, HB⟩ := hcut
  cases kq with
  | zero => exact absurd HA.out (by simp [spec_SigOk.j0])
  | succ kj1 =>
   have H := HA.out
   clear HA
   simp only [spec_SigOk.j0] at H
   by_cases c10 : x20_1 = true
   ·subst c10
    replace H := iT_ H
    obtain rfl := Option.some.inj H
    go_wp2
    go_ret
    exact ⟨by first | rfl | (simp [errW_none, errW_some] <;> rfl) | (simp [*, errW_none, errW_some] <;> rfl), hS_ GE498.out⟩
   ·replace c10 := Bool.eq_false_iff.mpr c10
    subst c10
    replace H := iF_ H
    have H' := Aside0.mk H
    clear H
    go_wp2
    go_loopg [3] kj1 (fun kq v3 w' => ∃ (x3_2 : Int), v3 = .int .i64 x3_2 ∧ Aside0 (spec_SigOk.l0 kq x3_2 a0_0 l0_1 l0_2 = some r) ∧ Aside0 (kq ≤ kj1) ∧ Aside0 (w'.heap[gb498]? = some (.cells #[.int .i64 a0_0, (.slice A0_1 l0_1.length c0_1), (.slice A0_2 l0_2.length c0_2)] 37 (0, 0))) ∧ Aside0 (Below w.heap.size w w'))
    case atStart => exact ⟨(0), (by first | rfl | (simp; done) | (simp [*]; done)), H', ⟨Nat.le_refl _⟩, ⟨by refine kK_ ?_; exact BK498.out⟩, ⟨hS_ GE498.out⟩⟩
    case round =>
     clear H'
     obtain ⟨x3_2, rfl, HA, HK2, BK498, HB⟩ := hrel
     cases gk with
     | zero => exact absurd HA.out (by simp [spec_SigOk.l0])
     | succ k2 =>
      have H := HA.out
      clear HA
      simp only [spec_SigOk.l0] at H
      by_cases c11 : x3_2 < (l0_1.length : Int)
      ·rw [if_pos c11] at H
       have c11b0 := decide_eq_true c11
       clear c11
       obtain ⟨c12b0, H⟩ := iD_ H
       by_cases c13 : ((rdOf ByteArray.empty l0_1 x3_2).size : Int) = 4
       ·rw [if_pos c13] at H
        have c13b0 : (((rdOf ByteArray.empty l0_1 x3_2).size : Int) == 4) = true := beq_iff_eq.mpr c13
        have c13b1 : (((rdOf ByteArray.empty l0_1 x3_2).size : Int) != 4) = false := bne_eq_false_iff_eq.mpr c13
        clear c13
        have H' := Aside0.mk H
        clear H
        have hcz14_0 : wr.cell? ⟨gb498, 0, none⟩ = some (.int .i64 a0_0) := (blk_cell BK498.out 0).trans rfl
        have hcz14_1 : wr.cell? ⟨gb498, 1, none⟩ = some (.slice A0_1 l0_1.length c0_1) := (blk_cell BK498.out 1).trans rfl
        have hcz14_2 : wr.cell? ⟨gb498, 2, none⟩ = some (.slice A0_2 l0_2.length c0_2) := (blk_cell BK498.out 2).trans rfl
        have hfz14_0 := blk_frozen BK498.out 0
        have hfz14_1 := blk_frozen BK498.out 1
        have hfz14_2 := blk_frozen BK498.out 2
        have p500 : 0 ≤ (x3_2 : Int) := of_decide_eq_true (by first | (with_reducible assumption) | assumption)
        have q500 : x3_2 < (l0_1.length : Int) := of_decide_eq_true (by first | (with_reducible assumption) | assumption)
        obtain ⟨ad500, e500, hx500_0⟩ := Kd.at_string HR0_1.out x3_2 p500 q500
        cases e500
        replace hx500_0 := (HB.out.cell (World.block_lt_of_cell? w _ hx500_0)).trans hx500_0
        replace p500 := eq_true p500
        replace q500 := eq_true q500
        go_wp2
        go_roundg k2
        case measure => have := HJ1.out; have := HK2.out; omega
        case rel => exact ⟨(wrap64 (x3_2 + 1)), (by first | rfl | (simp; done) | (simp [*]; done)), H', ⟨by have := HJ1.out; have := HK2.out; omega⟩, ⟨by refine kK_ ?_; exact BK498.out⟩, ⟨hS_ GE498.out⟩⟩
       rw [if_neg c13] at H
       have c13b0 : (((rdOf ByteArray.empty l0_1 x3_2).size : Int) == 4) = false := beq_eq_false_iff_ne.mpr c13
       have c13b1 : (((rdOf ByteArray.empty l0_1 x3_2).size : Int) != 4) = true := bne_iff_ne.mpr c13
       obtain rfl := Option.some.inj H
       have hcz15_0 : wr.cell? ⟨gb498, 0, none⟩ = some (.int .i64 a0_0) := (blk_cell BK498.out 0).trans rfl
       have hcz15_1 : wr.cell? ⟨gb498, 1, none⟩ = some (.slice A0_1 l0_1.length c0_1) := (blk_cell BK498.out 1).trans rfl
       have hcz15_2 : wr.cell? ⟨gb498, 2, none⟩ = some (.slice A0_2 l0_2.length c0_2) := (blk_cell BK498.out 2).trans rfl
       have hfz15_0 := blk_frozen BK498.out 0
       have hfz15_1 := blk_frozen BK498.out 1
       have hfz15_2 := blk_frozen BK498.out 2
       have p500 : 0 ≤ (x3_2 : Int) := of_decide_eq_true (by first | (with_reducible assumption) | assumption)
       have q500 : x3_2 < (l0_1.length : Int) := of_decide_eq_true (by first | (with_reducible assumption) | assumption)
       obtain ⟨ad500, e500, hx500_0⟩ := Kd.at_string HR0_1.out x3_2 p500 q500
       cases e500
       replace hx500_0 := (HB.out.cell (World.block_lt_of_cell? w _ hx500_0)).trans hx500_0
       replace p500 := eq_true p500
       replace q500 := eq_true q500
       go_wp2
       go_ret
       exact ⟨by first | rfl | (simp [errW_none, errW_some] <;> rfl) | (simp [*, errW_none, errW_some] <;> rfl), hS_ GE498.out⟩
      rw [if_neg c11] at H
      have c11b0 := decide_eq_false c11
      clear c11
      have H' := Aside0.mk H
      clear H
      have hcz16_0 : wr.cell? ⟨gb498, 0, none⟩ = some (.int .i64 a0_0) := (blk_cell BK498.out 0).trans rfl
      have hcz16_1 : wr.cell? ⟨gb498, 1, none⟩ = some (.slice A0_1 l0_1.length c0_1) := (blk_cell BK498.out 1).trans rfl
      have hcz16_2 : wr.cell? ⟨gb498, 2, none⟩ = some (.slice A0_2 l0_2.length c0_2) := (blk_cell BK498.out 2).trans rfl
      have hfz16_0 := blk_frozen BK498.out 0
      have hfz16_1 := blk_frozen BK498.out 1
      have hfz16_2 := blk_frozen BK498.out 2
      go_wp2
      go_loopg [4] k2 (fun kq v4 w' => ∃ (x4_3 : Int), v4 = .int .i64 x4_3 ∧ Aside0 (spec_SigOk.l1 kq x4_3 a0_0 l0_1 l0_2 = some r) ∧ Aside0 (kq ≤ k2) ∧ Aside0 (w'.heap[gb498]? = some (.cells #[.int .i64 a0_0, (.slice A0_1 l0_1.length c0_1), (.slice A0_2 l0_2.length c0_2)] 37 (0, 0))) ∧ Aside0 (Below w.heap.size w w'))
      case atStart => exact ⟨(0), (by first | rfl | (simp; done) | (simp [*]; done)), H', ⟨Nat.le_refl _⟩, ⟨by refine kK_ ?_; exact BK498.out⟩, ⟨hS_ GE498.out⟩⟩
      case round =>
       clear H'
       obtain ⟨x4_3, rfl, HA, HK3, BK498, HB⟩ := hrel
       cases gk with
       | zero => exact absurd HA.out (by simp [spec_SigOk.l1])
       | succ k3 =>
        have H := HA.out
        clear HA
        simp only [spec_SigOk.l1] at H
        by_cases c17 : x4_3 < (l0_2.length : Int)
        rotate_left
        ·rw [if_neg c17] at H
         have c17b0 := decide_eq_false c17
         clear c17
         obtain rfl := Option.some.inj H
         have hcz22_0 : wr.cell? ⟨gb498, 0, none⟩ = some (.int .i64 a0_0) := (blk_cell BK498.out 0).trans rfl
         have hcz22_1 : wr.cell? ⟨gb498, 1, none⟩ = some (.slice A0_1 l0_1.length c0_1) := (blk_cell BK498.out 1).trans rfl
         have hcz22_2 : wr.cell? ⟨gb498, 2, none⟩ = some (.slice A0_2 l0_2.length c0_2) := (blk_cell BK498.out 2).trans rfl
         have hfz22_0 := blk_frozen BK498.out 0
         have hfz22_1 := blk_frozen BK498.out 1
         have hfz22_2 := blk_frozen BK498.out 2
         go_wp2
         go_ret
         exact ⟨by first | rfl | (simp [errW_none, errW_some] <;> rfl) | (simp [*, errW_none, errW_some] <;> rfl), hS_ GE498.out⟩
        rw [if_pos c17] at H
        have c17b0 := decide_eq_true c17
        clear c17
        obtain ⟨c18b0, H⟩ := iD_ H
        by_cases c19 : ((rdOf ByteArray.empty l0_2 x4_3).size : Int) = 4
        ·rw [if_pos c19] at H
         have c19b0 : (((rdOf ByteArray.empty l0_2 x4_3).size : Int) == 4) = true := beq_iff_eq.mpr c19
         have c19b1 : (((rdOf ByteArray.empty l0_2 x4_3).size : Int) != 4) = false := bne_eq_false_iff_eq.mpr c19
         clear c19
         have H' := Aside0.mk H
         clear H
         have hcz20_0 : wr.cell? ⟨gb498, 0, none⟩ = some (.int .i64 a0_0) := (blk_cell BK498.out 0).trans rfl
         have hcz20_1 : wr.cell? ⟨gb498, 1, none⟩ = some (.slice A0_1 l0_1.length c0_1) := (blk_cell BK498.out 1).trans rfl
         have hcz20_2 : wr.cell? ⟨gb498, 2, none⟩ = some (.slice A0_2 l0_2.length c0_2) := (blk_cell BK498.out 2).trans rfl
         have hfz20_0 := blk_frozen BK498.out 0
         have hfz20_1 := blk_frozen BK498.out 1
         have hfz20_2 := blk_frozen BK498.out 2
         have p501 : 0 ≤ (x4_3 : Int) := of_decide_eq_true (by first | (with_reducible assumption) | assumption)
         have q501 : x4_3 < (l0_2.length : Int) := of_decide_eq_true (by first | (with_reducible assumption) | assumption)
         obtain ⟨ad501, e501, hx501_0⟩ := Kd.at_string HR0_2.out x4_3 p501 q501
         cases e501
         replace hx501_0 := (HB.out.cell (World.block_lt_of_cell? w _ hx501_0)).trans hx501_0
         replace p501 := eq_true p501
         replace q501 := eq_true q501
         go_wp2
         go_roundg k3
         case measure => have := HJ1.out; have := HK2.out; have := HK3.out; omega
         case rel => exact ⟨(wrap64 (x4_3 + 1)), (by first | rfl | (simp; done) | (simp [*]; done)), H', ⟨by have := HJ1.out; have := HK2.out; have := HK3.out; omega⟩, ⟨by refine kK_ ?_; exact BK498.out⟩, ⟨hS_ GE498.out⟩⟩
        rw [if_neg c19] at H
        have c19b0 : (((rdOf ByteArray.empty l0_2 x4_3).size : Int) == 4) = false := beq_eq_false_iff_ne.mpr c19
        have c19b1 : (((rdOf ByteArray.empty l0_2 x4_3).size : Int) != 4) = true := bne_iff_ne.mpr c19
        obtain rfl := Option.some.inj H
        have hcz21_0 : wr.cell? ⟨gb498, 0, none⟩ = some (.int .i64 a0_0) := (blk_cell BK498.out 0).trans rfl
        have hcz21_1 : wr.cell? ⟨gb498, 1, none⟩ = some (.slice A0_1 l0_1.length c0_1) := (blk_cell BK498.out 1).trans rfl
        have hcz21_2 : wr.cell? ⟨gb498, 2, none⟩ = some (.slice A0_2 l0_2.length c0_2) := (blk_cell BK498.out 2).trans rfl
        have hfz21_0 := blk_frozen BK498.out 0
        have hfz21_1 := blk_frozen BK498.out 1
        have hfz21_2 := blk_frozen BK498.out 2
        have p501 : 0 ≤ (x4_3 : Int) := of_decide_eq_true (by first | (with_reducible assumption) | assumption)
        have q501 : x4_3 < (l0_2.length : Int) := of_decide_eq_true (by first | (with_reducible assumption) | assumption)
        obtain ⟨ad501, e501, hx501_0⟩ := Kd.at_string HR0_2.out x4_3 p501 q501
        cases e501
        replace hx501_0 := (HB.out.cell (World.block_lt_of_cell? w _ hx501_0)).trans hx501_0
        replace p501 := eq_true p501
        replace q501 := eq_true q501
        go_wp2
        go_ret
        exact ⟨by first | rfl | (simp [errW_none, errW_some] <;> rfl) | (simp [*, errW_none, errW_some] <;> rfl), hS_ GE498.out⟩

end Go.Proofs.Ytnckhligcdieaaa.P
