/- SHA-256, one block: the reference's round is the program's. -/
import Derived.Test.YtoeagdpddggliaaDoorMKB
import Derived.Test.YtoeagdpddggliaaDoorHA2
import Derived.Test.YtoeagdpddggliaaDoorHA3
import Derived.Test.YtoeagdpddggliaaDoorPx3
import Derived.Test.YtoeagdpddggliaaDoorPx4
import Derived.Laws.BitsAllLaws
import Derived.Laws.BitsLemmas
namespace Go.Proofs.YtoeagdpddggliaaDoor.Pure
open Go.RowKit Go.Proofs.YtoeagdpddggliaaDoorW.PrintWords Go.Proofs.YtoeagdpddggliaaDoorW.PrintLast Go.Proofs.YtoeagdpddggliaaDoorW.PrintMore Go.Proofs.YtoeagdpddggliaaDoor.P Go.Proofs.YtoeagdpddggliaaDoor.Kit
set_option linter.unusedVariables false
set_option linter.unusedSimpArgs false

def W32 (x : Int) : Prop := 0 ≤ x ∧ x < 4294967296
theorem W32.mod (x : Int) : W32 (x % 4294967296) := by unfold W32; omega
theorem W32.xor (a b : Int) : W32 (Go.bits .xor .u32 a b) := by
  show W32 (IntKind.u32.wrap (((BitVec.ofInt 32 a ^^^ BitVec.ofInt 32 b).toNat : Nat) : Int))
  rw [IntKind.wrap_u32']; exact W32.mod _
theorem W32.or (a b : Int) : W32 (Go.bits .or .u32 a b) := by
  show W32 (IntKind.u32.wrap (((BitVec.ofInt 32 a ||| BitVec.ofInt 32 b).toNat : Nat) : Int))
  rw [IntKind.wrap_u32']; exact W32.mod _
theorem wraps32 : ∀ n : Int, 0 ≤ n → n < 2 ^ 32 → IntKind.u32.wrap n = n := fun n h0 h1 => by rw [IntKind.wrap_u32']; omega
/-- Two words joined that share no bit. -/
theorem or_add (i : Nat) (x y : Int) (hx : W32 x) (hi : x % 2 ^ i = 0) (hy : W32 y) (hyi : y < 2 ^ i) : Go.bits .or .u32 x y = x + y :=
  bits_join .u32 32 (by decide) wraps32 i x y hx.1 hi (by have := hx.2; omega) hy.1 hyi (by have := hy.2; omega)
theorem not32 (e : Int) (h : W32 e) : Go.bits .xor .u32 (if IntKind.u32.signed = true then -1 else IntKind.u32.max) e = 4294967295 - e := by
  obtain ⟨n, rfl⟩ := Int.eq_ofNat_of_zero_le h.1
  have hn : n < 4294967296 := by have := h.2; omega
  show IntKind.u32.wrap (((BitVec.ofInt 32 4294967295 ^^^ BitVec.ofInt 32 (n : Int)).toNat : Nat) : Int) = _
  have h1 : (BitVec.ofInt 32 4294967295 ^^^ BitVec.ofInt 32 (n : Int)).toNat = 4294967295 - n := by
    have e1 : BitVec.ofInt 32 4294967295 = BitVec.allOnes 32 := by decide
    rw [e1, BitVec.allOnes_xor, BitVec.toNat_not, BitVec.toNat_ofInt]
    omega
  rw [h1, IntKind.wrap_u32']
  omega
theorem rot_eq (x : Int) (n : Nat) (h1 : 1 ≤ n) (h2 : n ≤ 31) (h : W32 x) : rot x n = x / 2 ^ n + (x % 2 ^ n) * 2 ^ (32 - n) := by
  obtain ⟨A, hA⟩ : ∃ A : Int, A = 2 ^ n := ⟨_, rfl⟩
  obtain ⟨B, hB⟩ : ∃ B : Int, B = 2 ^ (32 - n) := ⟨_, rfl⟩
  have hA0 : 0 < A := by rw [hA]; exact Int.pow_pos (by decide)
  have hB0 : 0 < B := by rw [hB]; exact Int.pow_pos (by decide)
  have hAB : B * A = 4294967296 := by
    rw [hA, hB, ← Int.pow_add, show 32 - n + n = 32 by omega]; rfl
  have hl : shl .u32 x ((32 - n : Nat) : Int) = (x % A) * B := by
    unfold shl
    rw [Int.toNat_natCast, Nat.min_eq_left (by show 32 - n ≤ 32; omega), IntKind.wrap_u32', ← hB, ← hAB, Int.mul_comm x B, Int.mul_emod_mul_of_pos _ _ hB0, Int.mul_comm]
  have hr : shr .u32 x (n : Int) = x / A := by
    unfold shr
    rw [Int.toNat_natCast, Nat.min_eq_left (by show n ≤ 32; omega), ← hA]
  have hm0 := Int.emod_nonneg x (Int.ne_of_gt hA0)
  have hm1 := Int.emod_lt_of_pos x hA0
  have hd0 : 0 ≤ x / A := Int.ediv_nonneg h.1 (Int.le_of_lt hA0)
  have hd1 : x / A < B := Int.ediv_lt_of_lt_mul hA0 (by rw [hAB]; exact h.2)
  have hmb : (x % A) * B < 4294967296 := by
    have h3 : (x % A + 1) * B ≤ A * B := Int.mul_le_mul_of_nonneg_right (by omega) (Int.le_of_lt hB0)
    rw [Int.mul_comm A B, hAB, Int.add_mul, Int.one_mul] at h3
    omega
  have hB1 : B ≤ 4294967296 := by
    have h3 : B * 1 ≤ B * A := Int.mul_le_mul_of_nonneg_left (by omega) (Int.le_of_lt hB0)
    rw [hAB, Int.mul_one] at h3; exact h3
  unfold rot
  rw [hl, hr, ← hA, ← hB, or_add (32 - n) _ _ ⟨Int.mul_nonneg hm0 (Int.le_of_lt hB0), hmb⟩ (by rw [← hB]; exact Int.mul_emod_left _ _) ⟨hd0, by omega⟩ (by rw [← hB]; exact hd1), Int.add_comm]
theorem rot_w (x : Int) (n : Nat) : W32 (rot x n) := W32.or _ _
theorem l05Right_eq (x : Int) (n : Nat) (a b : Int) (ha : a = 2 ^ n) (hb : b = 2 ^ (32 - n)) (h1 : 1 ≤ n) (h2 : n ≤ 31) (h : W32 x) : spec_l05Right.f x a b = some (rot x n) := by
  have hA0 : 0 < a := by rw [ha]; exact Int.pow_pos (by decide)
  have hr := rot_eq x n h1 h2 h
  have hw := rot_w x n
  rw [← ha, ← hb] at hr
  have hw1 := hw.1
  have hw2 := hw.2
  have hd0 : 0 ≤ x / a := Int.ediv_nonneg h.1 (Int.le_of_lt hA0)
  have hb0 : 0 ≤ b := by rw [hb]; exact Int.le_of_lt (Int.pow_pos (by decide))
  have hm0 : 0 ≤ x % a * b := Int.mul_nonneg (Int.emod_nonneg x (Int.ne_of_gt hA0)) hb0
  unfold spec_l05Right.f
  rw [if_neg (Int.ne_of_gt hA0), Int.tdiv_eq_ediv_of_nonneg h.1, Int.tmod_eq_emod_of_nonneg h.1]
  rw [hr] at hw1 hw2 ⊢
  congr 1
  rw [Int.emod_eq_of_lt hd0 (by omega), Int.emod_eq_of_lt hm0 (by omega), Int.emod_eq_of_lt hw1 hw2]
theorem l05S_last (x : Int) (n m : Nat) (a b c : Int) (ha : a = 2 ^ n) (hb : b = 2 ^ m) (hc : c ≠ 0) (ha2 : (Int.tdiv 2147483648 a % 4294967296) * 2 % 4294967296 = 2 ^ (32 - n)) (hb2 : (Int.tdiv 2147483648 b % 4294967296) * 2 % 4294967296 = 2 ^ (32 - m)) (hn : 1 ≤ n ∧ n ≤ 31) (hm : 1 ≤ m ∧ m ≤ 31) (hcx : 0 < c) (h : W32 x) :
    spec_l05S.f x a b c true = some (Go.bits .xor .u32 (Go.bits .xor .u32 (rot x n) (rot x m)) (x / c)) := by
  have ha0 : a ≠ 0 := by rw [ha]; exact Int.ne_of_gt (Int.pow_pos (by decide))
  have hb0 : b ≠ 0 := by rw [hb]; exact Int.ne_of_gt (Int.pow_pos (by decide))
  unfold spec_l05S.f
  rw [if_neg ha0, l05Right_eq x n a _ ha ha2 hn.1 hn.2 h]
  simp only [Option.bind_some]
  rw [if_neg hb0, l05Right_eq x m b _ hb hb2 hm.1 hm.2 h]
  simp only [Option.bind_some]
  rw [if_neg hc, if_pos trivial, Int.tdiv_eq_ediv_of_nonneg h.1]
  have h1 : 0 ≤ x / c := Int.ediv_nonneg h.1 (Int.le_of_lt hcx)
  have h2 : x / c ≤ x := Int.ediv_le_self _ h.1
  rw [Int.emod_eq_of_lt h1 (by have := h.2; omega)]
theorem l05S_three (x : Int) (n m q : Nat) (a b c : Int) (ha : a = 2 ^ n) (hb : b = 2 ^ m) (hc : c = 2 ^ q) (ha2 : (Int.tdiv 2147483648 a % 4294967296) * 2 % 4294967296 = 2 ^ (32 - n)) (hb2 : (Int.tdiv 2147483648 b % 4294967296) * 2 % 4294967296 = 2 ^ (32 - m)) (hc2 : (Int.tdiv 2147483648 c % 4294967296) * 2 % 4294967296 = 2 ^ (32 - q)) (hn : 1 ≤ n ∧ n ≤ 31) (hm : 1 ≤ m ∧ m ≤ 31) (hq : 1 ≤ q ∧ q ≤ 31) (h : W32 x) :
    spec_l05S.f x a b c false = some (Go.bits .xor .u32 (Go.bits .xor .u32 (rot x n) (rot x m)) (rot x q)) := by
  have ha0 : a ≠ 0 := by rw [ha]; exact Int.ne_of_gt (Int.pow_pos (by decide))
  have hb0 : b ≠ 0 := by rw [hb]; exact Int.ne_of_gt (Int.pow_pos (by decide))
  have hc0 : c ≠ 0 := by rw [hc]; exact Int.ne_of_gt (Int.pow_pos (by decide))
  unfold spec_l05S.f
  rw [if_neg ha0, l05Right_eq x n a _ ha ha2 hn.1 hn.2 h]
  simp only [Option.bind_some]
  rw [if_neg hb0, l05Right_eq x m b _ hb hb2 hm.1 hm.2 h]
  simp only [Option.bind_some]
  rw [if_neg hc0, if_neg (by decide), l05Right_eq x q c _ hc hc2 hq.1 hq.2 h]
  simp only [Option.bind_some]
theorem S_w1 (x : Int) (h : W32 x) : spec_l05S.f x 131072 524288 1024 true = some (Go.bits .xor .u32 (Go.bits .xor .u32 (rot x 17) (rot x 19)) (x / 1024)) :=
  l05S_last x 17 19 _ _ _ rfl rfl (by decide) rfl rfl (by decide) (by decide) (by decide) h
theorem S_w0 (x : Int) (h : W32 x) : spec_l05S.f x 128 262144 8 true = some (Go.bits .xor .u32 (Go.bits .xor .u32 (rot x 7) (rot x 18)) (x / 8)) :=
  l05S_last x 7 18 _ _ _ rfl rfl (by decide) rfl rfl (by decide) (by decide) (by decide) h
theorem S_e (x : Int) (h : W32 x) : spec_l05S.f x 64 2048 33554432 false = some (Go.bits .xor .u32 (Go.bits .xor .u32 (rot x 6) (rot x 11)) (rot x 25)) :=
  l05S_three x 6 11 25 _ _ _ rfl rfl rfl rfl rfl rfl (by decide) (by decide) (by decide) h
theorem S_a (x : Int) (h : W32 x) : spec_l05S.f x 4 8192 4194304 false = some (Go.bits .xor .u32 (Go.bits .xor .u32 (rot x 2) (rot x 13)) (rot x 22)) :=
  l05S_three x 2 13 22 _ _ _ rfl rfl rfl rfl rfl rfl (by decide) (by decide) (by decide) h

/-! the words of a block -/
def word (s : ByteArray) (i : Nat) : Int := bt s ((4 * i : Nat) : Int) * 16777216 + bt s ((4 * i + 1 : Nat) : Int) * 65536 + bt s ((4 * i + 2 : Nat) : Int) * 256 + bt s ((4 * i + 3 : Nat) : Int)
theorem word_w (s : ByteArray) (i : Nat) : W32 (word s i) := by
  have h0 := bt_range s ((4 * i : Nat) : Int)
  have h1 := bt_range s ((4 * i + 1 : Nat) : Int)
  have h2 := bt_range s ((4 * i + 2 : Nat) : Int)
  have h3 := bt_range s ((4 * i + 3 : Nat) : Int)
  unfold word W32
  omega
def wordL (s : ByteArray) (n : Nat) : List Int := (List.range n).map (word s)
theorem wordL_len (s : ByteArray) (n : Nat) : (wordL s n).length = n := by simp [wordL]
theorem wordL_succ (s : ByteArray) (n : Nat) : wordL s (n + 1) = wordL s n ++ [word s n] := by simp [wordL, List.range_succ]
theorem wordL_w (s : ByteArray) (n : Nat) : ∀ x ∈ wordL s n, W32 x := by
  intro x hx
  obtain ⟨i, _, rfl⟩ := List.mem_map.mp hx
  exact word_w s i
theorem spec_l05Word_eq (s : ByteArray) (i : Nat) (h : 4 * i + 4 ≤ s.size) (hs : s.size ≤ 4611686018427387904) : spec_l05Word.f s ((4 * i : Nat) : Int) = some (word s i) := by
  have e1 : wrap64 (((4 * i : Nat) : Int) + 1) = ((4 * i + 1 : Nat) : Int) := by rw [w64 (by omega) (by omega)]; rfl
  have e2 : wrap64 (((4 * i : Nat) : Int) + 2) = ((4 * i + 2 : Nat) : Int) := by rw [w64 (by omega) (by omega)]; rfl
  have e3 : wrap64 (((4 * i : Nat) : Int) + 3) = ((4 * i + 3 : Nat) : Int) := by rw [w64 (by omega) (by omega)]; rfl
  have h0 := bt_range s ((4 * i : Nat) : Int)
  have h1 := bt_range s ((4 * i + 1 : Nat) : Int)
  have h2 := bt_range s ((4 * i + 2 : Nat) : Int)
  have h3 := bt_range s ((4 * i + 3 : Nat) : Int)
  unfold spec_l05Word.f
  rw [e1, e2, e3, if_pos (by omega), if_pos (by omega), if_pos (by omega), if_pos (by omega), if_pos (by omega), if_pos (by omega), if_pos (by omega), if_pos (by omega)]
  unfold word
  congr 1
  generalize bt s ((4 * i : Nat) : Int) = b0 at *
  generalize bt s ((4 * i + 1 : Nat) : Int) = b1 at *
  generalize bt s ((4 * i + 2 : Nat) : Int) = b2 at *
  generalize bt s ((4 * i + 3 : Nat) : Int) = b3 at *
  clear e1 e2 e3
  omega
theorem spec_l05Words_ev (s : ByteArray) (n : Nat) (h : s.size = 4 * n) (hn : n ≤ 1000000) : Ev (fun k => spec_l05Words.f k s) (wordL s n) := by
  refine Ev.up (g := fun i k => spec_l05Words.l0 k s (wordL s i) ((4 * i : Nat) : Int)) n ?_ ?_ 0 (Nat.zero_le _)
  · intro i hi hh
    refine Ev.step (fun k => ?_) hh
    simp only [spec_l05Words.l0]
    have e4 : wrap64 (((4 * i : Nat) : Int) + 4) = ((4 * (i + 1) : Nat) : Int) := by rw [w64 (by omega) (by omega)]; omega
    rw [e4, if_pos (by omega), spec_l05Word_eq s i (by omega) (by omega)]
    simp only [Option.bind_some]
    rw [if_pos (by rw [wordL_len]; omega), wordL_succ]
  · refine Ev.step (f := fun _ => some (wordL s n)) (fun k => ?_) (Ev.now _)
    simp only [spec_l05Words.l0]
    have e4 : wrap64 (((4 * n : Nat) : Int) + 4) = ((4 * (n + 1) : Nat) : Int) := by rw [w64 (by omega) (by omega)]; omega
    rw [e4, if_neg (by omega)]
end Go.Proofs.YtoeagdpddggliaaDoor.Pure
