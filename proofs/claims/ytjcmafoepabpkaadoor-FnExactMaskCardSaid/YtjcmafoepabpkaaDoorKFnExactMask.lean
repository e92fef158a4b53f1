/- Plain laws that the law FnExactMask rests on. -/
import Derived.Test.YtjcmafoepabpkaaDoorPx0
import Derived.Test.YtjcmafoepabpkaaDoorV0
import Derived.Test.YtjcmafoepabpkaaDoorHA2
import Derived.Test.YtjcmafoepabpkaaDoorHA3
import Derived.Laws.BitsAllLaws
import Derived.Laws.BitsLemmas
import Derived.Test.YtjcmafoepabpkaaDoorHA4
import Derived.Test.YtjcmafoepabpkaaDoorHA5
import Derived.Test.YtjcmafoepabpkaaDoorMW3
import Derived.Test.YtjcmafoepabpkaaDoorPx1
import Derived.Test.YtjcmafoepabpkaaDoorPx2
import Derived.Test.YtjcmafoepabpkaaDoorPx3
import Derived.Test.YtjcmafoepabpkaaDoorPx4
import Derived.Test.YtjcmafoepabpkaaDoorPx5
import Derived.Test.YtjcmafoepabpkaaDoorPx6
import Derived.Test.YtjcmafoepabpkaaDoorHA2
import Derived.Test.YtjcmafoepabpkaaDoorHA3
import Derived.Test.YtjcmafoepabpkaaDoorHA1
import Derived.Test.YtjcmafoepabpkaaDoorHA4
import Derived.Test.YtjcmafoepabpkaaDoorHA5
import Derived.Test.YtjcmafoepabpkaaDoorHA7
import Derived.Test.YtjcmafoepabpkaaDoorHA8
namespace Go.Proofs.YtjcmafoepabpkaaDoor.Pure
open Go.RowKit Go.Proofs.YtjcmafoepabpkaaDoorW.PrintWords Go.Proofs.YtjcmafoepabpkaaDoorW.PrintLast Go.Proofs.YtjcmafoepabpkaaDoorW.PrintMore

theorem w64 {x : Int} (h1 : -9223372036854775808 ≤ x) (h2 : x ≤ 9223372036854775807) : wrap64 x = x := by unfold wrap64; omega
theorem w64s (n : Nat) (h : n < 9223372036854775807) : wrap64 ((n : Int) + 1) = ((n + 1 : Nat) : Int) := by rw [w64 (by omega) (by omega)]; rfl
theorem Ev.pos {α : Type} {c : Prop} [Decidable c] {f g : Nat → Option α} {r : α} (hc : c) (h : Ev f r) : Ev (fun k => if c then f k else g k) r := by
  simpa only [if_pos hc] using h
theorem Ev.neg {α : Type} {c : Prop} [Decidable c] {f g : Nat → Option α} {r : α} (hc : ¬ c) (h : Ev g r) : Ev (fun k => if c then f k else g k) r := by
  simpa only [if_neg hc] using h
theorem Ev.then {α β : Type} {o : Option α} {f : Nat → α → Option β} {a : α} {r : β} (h : o = some a) (k : Ev (fun n => f n a) r) : Ev (fun n => o.bind (f n)) r := by
  subst h; exact k
/-- A loop that goes up: what it answers at the end, it answers from the start. -/
theorem Ev.up {α : Type} {g : Nat → Nat → Option α} {r : α} (n : Nat) (hs : ∀ i, i < n → Ev (g (i + 1)) r → Ev (g i) r) (he : Ev (g n) r) (i : Nat) (hi : i ≤ n) : Ev (g i) r := by
  obtain ⟨d, rfl⟩ : ∃ d, n = i + d := ⟨n - i, by omega⟩
  induction d generalizing i with
  | zero => exact he
  | succ d ih =>
    refine hs i (by omega) (ih (i + 1) ?_ ?_ (by omega))
    · intro j hj h
      exact hs j (by omega) h
    · rw [show i + 1 + d = i + (d + 1) by omega]; exact he
theorem rd_nat (l : List Int) (i : Nat) : rd l (i : Int) = l.getD i 0 := by simp [rd]
theorem rd_get (l : List Int) (i : Nat) (h : i < l.length) : rd l (i : Int) = l[i] := by simp [rd, List.getD_eq_getElem?_getD, List.getElem?_eq_getElem h]
theorem take_snoc {α : Type} (l : List α) (i : Nat) (h : i < l.length) : l.take i ++ [l[i]] = l.take (i + 1) := by simp
theorem strOfNums_get (xs : List Int) (i : Nat) (h : i < (strOfNums xs).size) : (strOfNums xs)[i] = UInt8.ofNat (xs[i]'(by simpa [strOfNums_size] using h)).toNat := by
  simp [strOfNums, ByteArray.getElem_eq_getElem_data]
theorem bytes_ext {s t : ByteArray} (h : s.data.toList = t.data.toList) : s = t := by
  cases s; cases t; congr 1; exact Array.toList_inj.mp h
def EqQ (x y : Int) : Prop := x % 3329 = y % 3329
theorem EqQ.refl (x : Int) : EqQ x x := rfl
theorem EqQ.of {x y : Int} (h : x = y) : EqQ x y := by rw [h]; exact EqQ.refl y
theorem EqQ.symm {x y : Int} (h : EqQ x y) : EqQ y x := Eq.symm h
theorem EqQ.mod (x : Int) : EqQ (x % 3329) x := Int.emod_emod_of_dvd _ (Int.dvd_refl _)
theorem EqQ.neg {x y : Int} (h : EqQ x y) : EqQ (-x) (-y) := by unfold EqQ at *; omega
end Go.Proofs.YtjcmafoepabpkaaDoor.Pure
namespace Go.Proofs.YtjcmafoepabpkaaDoor.Pure
open Go.RowKit Go.Proofs.YtjcmafoepabpkaaDoorW.PrintWords Go.Proofs.YtjcmafoepabpkaaDoorW.PrintLast Go.Proofs.YtjcmafoepabpkaaDoorW.PrintMore Go.Proofs.YtjcmafoepabpkaaDoor.P Go.Proofs.YtjcmafoepabpkaaDoor.Kit
set_option linter.unusedVariables false
set_option linter.unusedSimpArgs false

def W32 (x : Int) : Prop := 0 ≤ x ∧ x < 4294967296
theorem W32.mod (x : Int) : W32 (x % 4294967296) := by unfold W32; omega
theorem W32.xor (a b : Int) : W32 (Go.bits .xor .u32 a b) := by
  show W32 (IntKind.u32.wrap (((BitVec.ofInt 32 a ^^^ BitVec.ofInt 32 b).toNat : Nat) : Int))
  rw [IntKind.wrap_u32']; exact W32.mod _
theorem W32.or (a b : Int) : W32 (Go.bits .or .u32 a b) := by
  show W32 (IntKind.u32.wrap (((BitVec.ofInt 32 a ||| BitVec.ofInt 32 b).toNat : Nat) : Int))
  rw [IntKind.wrap_u32']; exact W32.mod _
theorem wraps32 : ∀ n : Int, 0 ≤ n → n < 2 ^ 32 → IntKind.u32.wrap n = n := fun n h0 h1 => by rw [IntKind.wrap_u32']; omega
/-- Two words joined that share no bit. -/
theorem or_add (i : Nat) (x y : Int) (hx : W32 x) (hi : x % 2 ^ i = 0) (hy : W32 y) (hyi : y < 2 ^ i) : Go.bits .or .u32 x y = x + y :=
  bits_join .u32 32 (by decide) wraps32 i x y hx.1 hi (by have := hx.2; omega) hy.1 hyi (by have := hy.2; omega)
theorem not32 (e : Int) (h : W32 e) : Go.bits .xor .u32 (if IntKind.u32.signed = true then -1 else IntKind.u32.max) e = 4294967295 - e := by
  obtain ⟨n, rfl⟩ := Int.eq_ofNat_of_zero_le h.1
  have hn : n < 4294967296 := by have := h.2; omega
  show IntKind.u32.wrap (((BitVec.ofInt 32 4294967295 ^^^ BitVec.ofInt 32 (n : Int)).toNat : Nat) : Int) = _
  have h1 : (BitVec.ofInt 32 4294967295 ^^^ BitVec.ofInt 32 (n : Int)).toNat = 4294967295 - n := by
    have e1 : BitVec.ofInt 32 4294967295 = BitVec.allOnes 32 := by decide
    rw [e1, BitVec.allOnes_xor, BitVec.toNat_not, BitVec.toNat_ofInt]
    omega
  rw [h1, IntKind.wrap_u32']
  omega
theorem rot_eq (x : Int) (n : Nat) (h1 : 1 ≤ n) (h2 : n ≤ 31) (h : W32 x) : rot x n = x / 2 ^ n + (x % 2 ^ n) * 2 ^ (32 - n) := by
  obtain ⟨A, hA⟩ : ∃ A : Int, A = 2 ^ n := ⟨_, rfl⟩
  obtain ⟨B, hB⟩ : ∃ B : Int, B = 2 ^ (32 - n) := ⟨_, rfl⟩
  have hA0 : 0 < A := by rw [hA]; exact Int.pow_pos (by decide)
  have hB0 : 0 < B := by rw [hB]; exact Int.pow_pos (by decide)
  have hAB : B * A = 4294967296 := by
    rw [hA, hB, ← Int.pow_add, show 32 - n + n = 32 by omega]; rfl
  have hl : shl .u32 x ((32 - n : Nat) : Int) = (x % A) * B := by
    unfold shl
    rw [Int.toNat_natCast, Nat.min_eq_left (by show 32 - n ≤ 32; omega), IntKind.wrap_u32', ← hB, ← hAB, Int.mul_comm x B, Int.mul_emod_mul_of_pos _ _ hB0, Int.mul_comm]
  have hr : shr .u32 x (n : Int) = x / A := by
    unfold shr
    rw [Int.toNat_natCast, Nat.min_eq_left (by show n ≤ 32; omega), ← hA]
  have hm0 := Int.emod_nonneg x (Int.ne_of_gt hA0)
  have hm1 := Int.emod_lt_of_pos x hA0
  have hd0 : 0 ≤ x / A := Int.ediv_nonneg h.1 (Int.le_of_lt hA0)
  have hd1 : x / A < B := Int.ediv_lt_of_lt_mul hA0 (by rw [hAB]; exact h.2)
  have hmb : (x % A) * B < 4294967296 := by
    have h3 : (x % A + 1) * B ≤ A * B := Int.mul_le_mul_of_nonneg_right (by omega) (Int.le_of_lt hB0)
    rw [Int.mul_comm A B, hAB, Int.add_mul, Int.one_mul] at h3
    omega
  have hB1 : B ≤ 4294967296 := by
    have h3 : B * 1 ≤ B * A := Int.mul_le_mul_of_nonneg_left (by omega) (Int.le_of_lt hB0)
    rw [hAB, Int.mul_one] at h3; exact h3
  unfold rot
  rw [hl, hr, ← hA, ← hB, or_add (32 - n) _ _ ⟨Int.mul_nonneg hm0 (Int.le_of_lt hB0), hmb⟩ (by rw [← hB]; exact Int.mul_emod_left _ _) ⟨hd0, by omega⟩ (by rw [← hB]; exact hd1), Int.add_comm]
theorem rot_w (x : Int) (n : Nat) : W32 (rot x n) := W32.or _ _
theorem l05Right_eq (x : Int) (n : Nat) (a b : Int) (ha : a = 2 ^ n) (hb : b = 2 ^ (32 - n)) (h1 : 1 ≤ n) (h2 : n ≤ 31) (h : W32 x) : spec_l05Right.f x a b = some (rot x n) := by
  have hA0 : 0 < a := by rw [ha]; exact Int.pow_pos (by decide)
  have hr := rot_eq x n h1 h2 h
  have hw := rot_w x n
  rw [← ha, ← hb] at hr
  have hw1 := hw.1
  have hw2 := hw.2
  have hd0 : 0 ≤ x / a := Int.ediv_nonneg h.1 (Int.le_of_lt hA0)
  have hb0 : 0 ≤ b := by rw [hb]; exact Int.le_of_lt (Int.pow_pos (by decide))
  have hm0 : 0 ≤ x % a * b := Int.mul_nonneg (Int.emod_nonneg x (Int.ne_of_gt hA0)) hb0
  unfold spec_l05Right.f
  rw [if_neg (Int.ne_of_gt hA0), Int.tdiv_eq_ediv_of_nonneg h.1, Int.tmod_eq_emod_of_nonneg h.1]
  rw [hr] at hw1 hw2 ⊢
  congr 1
  rw [Int.emod_eq_of_lt hd0 (by omega), Int.emod_eq_of_lt hm0 (by omega), Int.emod_eq_of_lt hw1 hw2]
theorem l05S_last (x : Int) (n m : Nat) (a b c : Int) (ha : a = 2 ^ n) (hb : b = 2 ^ m) (hc : c ≠ 0) (ha2 : (Int.tdiv 2147483648 a % 4294967296) * 2 % 4294967296 = 2 ^ (32 - n)) (hb2 : (Int.tdiv 2147483648 b % 4294967296) * 2 % 4294967296 = 2 ^ (32 - m)) (hn : 1 ≤ n ∧ n ≤ 31) (hm : 1 ≤ m ∧ m ≤ 31) (hcx : 0 < c) (h : W32 x) :
    spec_l05S.f x a b c true = some (Go.bits .xor .u32 (Go.bits .xor .u32 (rot x n) (rot x m)) (x / c)) := by
  have ha0 : a ≠ 0 := by rw [ha]; exact Int.ne_of_gt (Int.pow_pos (by decide))
  have hb0 : b ≠ 0 := by rw [hb]; exact Int.ne_of_gt (Int.pow_pos (by decide))
  unfold spec_l05S.f
  rw [if_neg ha0, l05Right_eq x n a _ ha ha2 hn.1 hn.2 h]
  simp only [Option.bind_some]
  rw [if_neg hb0, l05Right_eq x m b _ hb hb2 hm.1 hm.2 h]
  simp only [Option.bind_some]
  rw [if_neg hc, if_pos trivial, Int.tdiv_eq_ediv_of_nonneg h.1]
  have h1 : 0 ≤ x / c := Int.ediv_nonneg h.1 (Int.le_of_lt hcx)
  have h2 : x / c ≤ x := Int.ediv_le_self _ h.1
  rw [Int.emod_eq_of_lt h1 (by have := h.2; omega)]
theorem l05S_three (x : Int) (n m q : Nat) (a b c : Int) (ha : a = 2 ^ n) (hb : b = 2 ^ m) (hc : c = 2 ^ q) (ha2 : (Int.tdiv 2147483648 a % 4294967296) * 2 % 4294967296 = 2 ^ (32 - n)) (hb2 : (Int.tdiv 2147483648 b % 4294967296) * 2 % 4294967296 = 2 ^ (32 - m)) (hc2 : (Int.tdiv 2147483648 c % 4294967296) * 2 % 4294967296 = 2 ^ (32 - q)) (hn : 1 ≤ n ∧ n ≤ 31) (hm : 1 ≤ m ∧ m ≤ 31) (hq : 1 ≤ q ∧ q ≤ 31) (h : W32 x) :
    spec_l05S.f x a b c false = some (Go.bits .xor .u32 (Go.bits .xor .u32 (rot x n) (rot x m)) (rot x q)) := by
  have ha0 : a ≠ 0 := by rw [ha]; exact Int.ne_of_gt (Int.pow_pos (by decide))
  have hb0 : b ≠ 0 := by rw [hb]; exact Int.ne_of_gt (Int.pow_pos (by decide))
  have hc0 : c ≠ 0 := by rw [hc]; exact Int.ne_of_gt (Int.pow_pos (by decide))
  unfold spec_l05S.f
  rw [if_neg ha0, l05Right_eq x n a _ ha ha2 hn.1 hn.2 h]
  simp only [Option.bind_some]
  rw [if_neg hb0, l05Right_eq x m b _ hb hb2 hm.1 hm.2 h]
  simp only [Option.bind_some]
  rw [if_neg hc0, if_neg (by decide), l05Right_eq x q c _ hc hc2 hq.1 hq.2 h]
  simp only [Option.bind_some]
theorem S_w1 (x : Int) (h : W32 x) : spec_l05S.f x 131072 524288 1024 true = some (Go.bits .xor .u32 (Go.bits .xor .u32 (rot x 17) (rot x 19)) (x / 1024)) :=
  l05S_last x 17 19 _ _ _ rfl rfl (by decide) rfl rfl (by decide) (by decide) (by decide) h
theorem S_w0 (x : Int) (h : W32 x) : spec_l05S.f x 128 262144 8 true = some (Go.bits .xor .u32 (Go.bits .xor .u32 (rot x 7) (rot x 18)) (x / 8)) :=
  l05S_last x 7 18 _ _ _ rfl rfl (by decide) rfl rfl (by decide) (by decide) (by decide) h
theorem S_e (x : Int) (h : W32 x) : spec_l05S.f x 64 2048 33554432 false = some (Go.bits .xor .u32 (Go.bits .xor .u32 (rot x 6) (rot x 11)) (rot x 25)) :=
  l05S_three x 6 11 25 _ _ _ rfl rfl rfl rfl rfl rfl (by decide) (by decide) (by decide) h
theorem S_a (x : Int) (h : W32 x) : spec_l05S.f x 4 8192 4194304 false = some (Go.bits .xor .u32 (Go.bits .xor .u32 (rot x 2) (rot x 13)) (rot x 22)) :=
  l05S_three x 2 13 22 _ _ _ rfl rfl rfl rfl rfl rfl (by decide) (by decide) (by decide) h

/-! the words of a block -/
def word (s : ByteArray) (i : Nat) : Int := bt s ((4 * i : Nat) : Int) * 16777216 + bt s ((4 * i + 1 : Nat) : Int) * 65536 + bt s ((4 * i + 2 : Nat) : Int) * 256 + bt s ((4 * i + 3 : Nat) : Int)
theorem word_w (s : ByteArray) (i : Nat) : W32 (word s i) := by
  have h0 := bt_range s ((4 * i : Nat) : Int)
  have h1 := bt_range s ((4 * i + 1 : Nat) : Int)
  have h2 := bt_range s ((4 * i + 2 : Nat) : Int)
  have h3 := bt_range s ((4 * i + 3 : Nat) : Int)
  unfold word W32
  omega
def wordL (s : ByteArray) (n : Nat) : List Int := (List.range n).map (word s)
theorem wordL_len (s : ByteArray) (n : Nat) : (wordL s n).length = n := by simp [wordL]
theorem wordL_succ (s : ByteArray) (n : Nat) : wordL s (n + 1) = wordL s n ++ [word s n] := by simp [wordL, List.range_succ]
theorem wordL_w (s : ByteArray) (n : Nat) : ∀ x ∈ wordL s n, W32 x := by
  intro x hx
  obtain ⟨i, _, rfl⟩ := List.mem_map.mp hx
  exact word_w s i
theorem spec_l05Word_eq (s : ByteArray) (i : Nat) (h : 4 * i + 4 ≤ s.size) (hs : s.size ≤ 4611686018427387904) : spec_l05Word.f s ((4 * i : Nat) : Int) = some (word s i) := by
  have e1 : wrap64 (((4 * i : Nat) : Int) + 1) = ((4 * i + 1 : Nat) : Int) := by rw [w64 (by omega) (by omega)]; rfl
  have e2 : wrap64 (((4 * i : Nat) : Int) + 2) = ((4 * i + 2 : Nat) : Int) := by rw [w64 (by omega) (by omega)]; rfl
  have e3 : wrap64 (((4 * i : Nat) : Int) + 3) = ((4 * i + 3 : Nat) : Int) := by rw [w64 (by omega) (by omega)]; rfl
  have h0 := bt_range s ((4 * i : Nat) : Int)
  have h1 := bt_range s ((4 * i + 1 : Nat) : Int)
  have h2 := bt_range s ((4 * i + 2 : Nat) : Int)
  have h3 := bt_range s ((4 * i + 3 : Nat) : Int)
  unfold spec_l05Word.f
  rw [e1, e2, e3, if_pos (by omega), if_pos (by omega), if_pos (by omega), if_pos (by omega), if_pos (by omega), if_pos (by omega), if_pos (by omega), if_pos (by omega)]
  unfold word
  congr 1
  generalize bt s ((4 * i : Nat) : Int) = b0 at *
  generalize bt s ((4 * i + 1 : Nat) : Int) = b1 at *
  generalize bt s ((4 * i + 2 : Nat) : Int) = b2 at *
  generalize bt s ((4 * i + 3 : Nat) : Int) = b3 at *
  clear e1 e2 e3
  omega
theorem spec_l05Words_ev (s : ByteArray) (n : Nat) (h : s.size = 4 * n) (hn : n ≤ 1000000) : Ev (fun k => spec_l05Words.f k s) (wordL s n) := by
  refine Ev.up (g := fun i k => spec_l05Words.l0 k s (wordL s i) ((4 * i : Nat) : Int)) n ?_ ?_ 0 (Nat.zero_le _)
  · intro i hi hh
    refine Ev.step (fun k => ?_) hh
    simp only [spec_l05Words.l0]
    have e4 : wrap64 (((4 * i : Nat) : Int) + 4) = ((4 * (i + 1) : Nat) : Int) := by rw [w64 (by omega) (by omega)]; omega
    rw [e4, if_pos (by omega), spec_l05Word_eq s i (by omega) (by omega)]
    simp only [Option.bind_some]
    rw [if_pos (by rw [wordL_len]; omega), wordL_succ]
  · refine Ev.step (f := fun _ => some (wordL s n)) (fun k => ?_) (Ev.now _)
    simp only [spec_l05Words.l0]
    have e4 : wrap64 (((4 * n : Nat) : Int) + 4) = ((4 * (n + 1) : Nat) : Int) := by rw [w64 (by omega) (by omega)]; omega
    rw [e4, if_neg (by omega)]
end Go.Proofs.YtjcmafoepabpkaaDoor.Pure
namespace Go.Proofs.YtjcmafoepabpkaaDoor.Pure
open Go.RowKit Go.Proofs.YtjcmafoepabpkaaDoorW.PrintWords Go.Proofs.YtjcmafoepabpkaaDoorW.PrintLast Go.Proofs.YtjcmafoepabpkaaDoorW.PrintMore Go.Proofs.YtjcmafoepabpkaaDoor.P Go.Proofs.YtjcmafoepabpkaaDoor.Kit
set_option linter.unusedVariables false
set_option linter.unusedSimpArgs false

/-- The words while word i is being made. -/
def partW (s : ByteArray) (i : Nat) (x : Int) : List Int := wordL s i ++ x :: List.replicate (63 - i) 0
theorem partW_rd (s : ByteArray) (i : Nat) (x : Int) : rd (partW s i x) (i : Int) = x := by
  rw [rd_nat, partW, List.getD_eq_getElem?_getD, List.getElem?_append_right (by rw [wordL_len]; omega), wordL_len]
  simp
theorem partW_set (s : ByteArray) (i : Nat) (x y : Int) : (partW s i x).set i y = partW s i y := by
  unfold partW
  rw [List.set_append_right _ _ (by rw [wordL_len]; omega), wordL_len]
  simp
theorem wordsA_step (s : ByteArray) (m i : Nat) (x y : Int) (hm : m / 4 = i) (h : wordsA s m = partW s i x) (hx : 0 ≤ x) (hx2 : x < 16777216) (hy : y = x * 256 + bt s (m : Int)) : wordsA s (m + 1) = partW s i y := by
  have hb := bt_range s (m : Int)
  simp only [wordsA]
  rw [hm, h, partW_rd, partW_set, or_add 8 _ _ (W32.mod _) (by omega) (W32.mod _) (by omega), hy]
  congr 1
  omega
theorem wordsA_four (s : ByteArray) (i : Nat) (hi : i < 16) (h : wordsA s (4 * i) = partW s i 0) : wordsA s (4 * (i + 1)) = wordL s (i + 1) ++ List.replicate (63 - i) 0 := by
  have b0 := bt_range s ((4 * i : Nat) : Int)
  have b1 := bt_range s ((4 * i + 1 : Nat) : Int)
  have b2 := bt_range s ((4 * i + 2 : Nat) : Int)
  have b3 := bt_range s ((4 * i + 3 : Nat) : Int)
  have h1 := wordsA_step s (4 * i) i 0 (bt s ((4 * i : Nat) : Int)) (by omega) h (by omega) (by omega) (by omega)
  have h2 := wordsA_step s (4 * i + 1) i _ (bt s ((4 * i : Nat) : Int) * 256 + bt s ((4 * i + 1 : Nat) : Int)) (by omega) h1 (by omega) (by omega) rfl
  have h3 := wordsA_step s (4 * i + 2) i _ ((bt s ((4 * i : Nat) : Int) * 256 + bt s ((4 * i + 1 : Nat) : Int)) * 256 + bt s ((4 * i + 2 : Nat) : Int)) (by omega) h2 (by omega) (by omega) rfl
  have h4 := wordsA_step s (4 * i + 3) i _ (word s i) (by omega) h3 (by omega) (by omega) (by unfold word; omega)
  rw [show 4 * (i + 1) = 4 * i + 3 + 1 by omega, h4, partW, wordL_succ]
  simp
theorem wordsA_all (s : ByteArray) : ∀ i, i ≤ 16 → wordsA s (4 * i) = wordL s i ++ List.replicate (64 - i) 0
  | 0, _ => rfl
  | i + 1, h => by
    have ih := wordsA_all s i (by omega)
    rw [wordsA_four s i (by omega) (by rw [ih, partW, show 64 - i = (63 - i) + 1 by omega, List.replicate_succ]), show 64 - (i + 1) = 63 - i by omega]
theorem wordNext_w (l : List Int) (t : Nat) : W32 (wordNext l t) := W32.mod _
theorem take_set_snoc (l : List Int) (t : Nat) (v : Int) (h : t < l.length) : (l.set t v).take (t + 1) = l.take t ++ [v] := by
  rw [List.take_add_one, List.take_set_of_le (Nat.le_refl _)]
  simp [h]
theorem wordsB_snoc (s : ByteArray) (j : Nat) (h : j < 48) : (wordsB s (j + 1)).take (16 + (j + 1)) = (wordsB s j).take (16 + j) ++ [wordNext (wordsB s j) (16 + j)] :=
  take_set_snoc _ (16 + j) _ (by rw [wordsB_len]; omega)
theorem wordsB_take (s : ByteArray) : ∀ j, j ≤ 48 → ∀ x ∈ (wordsB s j).take (16 + j), W32 x
  | 0, _ => by
    intro x hx
    have := wordsA_all s 16 (Nat.le_refl _)
    simp only [wordsB] at hx
    rw [show 64 = 4 * 16 from rfl, this, List.take_append_of_le_length (by rw [wordL_len]; omega)] at hx
    exact wordL_w s 16 x (List.mem_of_mem_take hx)
  | j + 1, h => by
    intro x hx
    rw [wordsB_snoc s j (by omega), List.mem_append] at hx
    rcases hx with hx | hx
    · exact wordsB_take s j (by omega) x hx
    · simp at hx; subst hx; exact wordNext_w _ _
theorem rd_take (l : List Int) (t i : Nat) (h : i < t) : rd (l.take t) (i : Int) = rd l (i : Int) := by
  rw [rd_nat, rd_nat]
  simp [List.getElem?_take, h]
theorem wB_w (s : ByteArray) (j i : Nat) (hj : j ≤ 48) (hi : i < 16 + j) : W32 (rd (wordsB s j) (i : Int)) := by
  have hl := wordsB_len s j
  rw [← rd_take _ (16 + j) i hi, rd_get _ _ (by rw [List.length_take, hl]; omega)]
  exact wordsB_take s j hj _ (List.getElem_mem _)
theorem l0_ev (s : ByteArray) (st ks : List Int) (r : List Int) (hst : st.length = 8) (h : Ev (fun k => spec_l05Round.l1 k st ks (impl_wordsOf.v s) st 0) r) : Ev (fun k => spec_l05Round.l0 k st ks (wordL s 16) 16) r := by
  have h0 : wordL s 16 = (wordsB s 0).take 16 := by
    simp only [wordsB]
    rw [show 64 = 4 * 16 from rfl, wordsA_all s 16 (Nat.le_refl _), List.take_append_of_le_length (by rw [wordL_len]; omega), List.take_of_length_le (by rw [wordL_len]; omega)]
  rw [h0]
  refine Ev.up (g := fun j k => spec_l05Round.l0 k st ks ((wordsB s j).take (16 + j)) ((16 + j : Nat) : Int)) 48 ?_ ?_ 0 (Nat.zero_le _)
  · intro j hj hh
    refine Ev.step (fun k => ?_) hh
    have hl : ((wordsB s j).take (16 + j)).length = 16 + j := by rw [List.length_take, wordsB_len]; omega
    have e1 : wrap64 (((16 + j : Nat) : Int) - 2) = ((14 + j : Nat) : Int) := by rw [w64 (by omega) (by omega)]; omega
    have e2 : wrap64 (((16 + j : Nat) : Int) - 7) = ((9 + j : Nat) : Int) := by rw [w64 (by omega) (by omega)]; omega
    have e3 : wrap64 (((16 + j : Nat) : Int) - 15) = ((1 + j : Nat) : Int) := by rw [w64 (by omega) (by omega)]; omega
    have e4 : wrap64 (((16 + j : Nat) : Int) - 16) = ((j : Nat) : Int) := by rw [w64 (by omega) (by omega)]; omega
    have e5 : wrap64 (((16 + j : Nat) : Int) + 1) = ((16 + (j + 1) : Nat) : Int) := by rw [w64 (by omega) (by omega)]; omega
    simp only [spec_l05Round.l0]
    rw [e1, e2, e3, e4, e5, hl, rd_take _ _ _ (by omega), rd_take _ _ _ (by omega), rd_take _ _ _ (by omega), rd_take _ _ _ (by omega)]
    rw [if_pos (by omega), if_pos (by omega), if_pos (by omega), S_w1 _ (wB_w s j _ (by omega) (by omega))]
    simp only [Option.bind_some]
    rw [if_pos (by omega), if_pos (by omega), if_pos (by omega), if_pos (by omega), S_w0 _ (wB_w s j _ (by omega) (by omega))]
    simp only [Option.bind_some]
    rw [if_pos (by omega), if_pos (by omega), if_pos (by omega), wordsB_snoc s j hj]
    congr 2
    unfold wordNext
    rw [show 16 + j - 2 = 14 + j by omega, show 16 + j - 7 = 9 + j by omega, show 16 + j - 15 = 1 + j by omega, show 16 + j - 16 = j by omega]
    simp only [List.append_cancel_left_eq, List.cons.injEq, and_true]
    omega
  · refine Ev.step (fun k => ?_) h
    have hl := wordsB_len s 48
    simp only [spec_l05Round.l0, Option.bind_some]
    rw [if_neg (by omega), if_pos (by simp; omega), List.take_of_length_le (by omega)]
    rfl
theorem wl0 : wrap64 0 = 0 := w64 (by decide) (by decide)
theorem wl1 : wrap64 1 = 1 := w64 (by decide) (by decide)
theorem wl2 : wrap64 2 = 2 := w64 (by decide) (by decide)
theorem wl3 : wrap64 3 = 3 := w64 (by decide) (by decide)
theorem wl4 : wrap64 4 = 4 := w64 (by decide) (by decide)
theorem wl5 : wrap64 5 = 5 := w64 (by decide) (by decide)
theorem wl6 : wrap64 6 = 6 := w64 (by decide) (by decide)
theorem wl7 : wrap64 7 = 7 := w64 (by decide) (by decide)
theorem wl8 : wrap64 8 = 8 := w64 (by decide) (by decide)
theorem l2_seven (k : Nat) (x0 x1 x7 : List Int) (a b c d e f g h t u v : Int) : spec_l05Round.l2 (k + 1 + 1 + 1 + 1 + 1 + 1 + 1 + 1) x0 x1 x7 [a, b, c, d, e, f, g, h] t u v 7 = spec_l05Round.l1 k x0 x1 x7 [(u + v) % 4294967296, a, b, c, (d + u) % 4294967296, e, f, g] (wrap64 (t + 1)) := by
  simp [spec_l05Round.l2, wl0, wl1, wl2, wl3, wl4, wl5, wl6, wl7, wl8, rd]
theorem l3_eight (k : Nat) (a b c d e f g h a' b' c' d' e' f' g' h' : Int) : spec_l05Round.l3 (k + 1 + 1 + 1 + 1 + 1 + 1 + 1 + 1 + 1) [a, b, c, d, e, f, g, h] [a', b', c', d', e', f', g', h'] [] 0 = some [(a + a') % 4294967296, (b + b') % 4294967296, (c + c') % 4294967296, (d + d') % 4294967296, (e + e') % 4294967296, (f + f') % 4294967296, (g + g') % 4294967296, (h + h') % 4294967296] := by
  simp [spec_l05Round.l3, wl0, wl1, wl2, wl3, wl4, wl5, wl6, wl7, wl8, rd]
theorem sums_eight (a b c d e f g h a' b' c' d' e' f' g' h' : Int) : sums [a, b, c, d, e, f, g, h] [a', b', c', d', e', f', g', h'] 8 = [(a' + a) % 4294967296, (b' + b) % 4294967296, (c' + c) % 4294967296, (d' + d) % 4294967296, (e' + e) % 4294967296, (f' + f) % 4294967296, (g' + g) % 4294967296, (h' + h) % 4294967296] := rfl
/-- Eight words. -/
def Eight (l : List Int) : Prop := l.length = 8 ∧ ∀ x ∈ l, W32 x
theorem Eight.cases {l : List Int} (h : Eight l) : ∃ a b c d e f g i, l = [a, b, c, d, e, f, g, i] ∧ W32 a ∧ W32 b ∧ W32 c ∧ W32 d ∧ W32 e ∧ W32 f ∧ W32 g ∧ W32 i := by
  obtain ⟨hl, hw⟩ := h
  match l, hl with
  | [a, b, c, d, e, f, g, i], _ => exact ⟨a, b, c, d, e, f, g, i, rfl, hw _ (by simp), hw _ (by simp), hw _ (by simp), hw _ (by simp), hw _ (by simp), hw _ (by simp), hw _ (by simp), hw _ (by simp)⟩
theorem Eight.mk' {a b c d e f g i : Int} (h1 : W32 a) (h2 : W32 b) (h3 : W32 c) (h4 : W32 d) (h5 : W32 e) (h6 : W32 f) (h7 : W32 g) (h8 : W32 i) : Eight [a, b, c, d, e, f, g, i] := by
  refine ⟨rfl, fun x hx => ?_⟩
  simp only [List.mem_cons, List.not_mem_nil, or_false] at hx
  rcases hx with rfl | rfl | rfl | rfl | rfl | rfl | rfl | rfl <;> assumption
theorem rnd_eight {k w : Int} {l : List Int} (h : Eight l) : Eight (rnd k w l) := by
  obtain ⟨a, b, c, d, e, f, g, i, rfl, h1, h2, h3, h4, h5, h6, h7, h8⟩ := h.cases
  exact Eight.mk' (W32.mod _) h1 h2 h3 (W32.mod _) h5 h6 h7
theorem rounds_eight {ws st : List Int} (h : Eight st) : ∀ t, Eight (rounds ws st t)
  | 0 => h
  | t + 1 => rnd_eight (rounds_eight h t)
theorem sums_eq {st v : List Int} (hst : Eight st) (hv : Eight v) : ∃ k0, ∀ k, k0 ≤ k → spec_l05Round.l3 k st v [] 0 = some (sums st v 8) := by
  obtain ⟨a, b, c, d, e, f, g, i, rfl, _⟩ := hv.cases
  obtain ⟨a', b', c', d', e', f', g', i', rfl, _⟩ := hst.cases
  refine ⟨9, fun k hk => ?_⟩
  obtain ⟨k', rfl⟩ : ∃ k', k = k' + 1 + 1 + 1 + 1 + 1 + 1 + 1 + 1 + 1 := ⟨k - 9, by omega⟩
  rw [l3_eight, sums_eight]
  simp only [Int.add_comm]
theorem l1_exit (ws : List Int) {st v : List Int} (hst : Eight st) (hv : Eight v) : ∃ k0, ∀ k, k0 ≤ k → spec_l05Round.l1 k st roundKeys ws v ((64 : Nat) : Int) = some (sums st v 8) := by
  obtain ⟨k0, h⟩ := sums_eq hst hv
  refine ⟨k0 + 1, fun k hk => ?_⟩
  obtain ⟨k', rfl⟩ : ∃ k', k = k' + 1 := ⟨k - 1, by omega⟩
  simp only [spec_l05Round.l1]
  rw [if_neg (by decide)]
  exact h k' (by omega)
theorem l1_R (ws : List Int) (st : List Int) (hst : Eight st) (hwl : ws.length = 64) (R : Nat → List Int) (h0 : R 0 = st) (hs : ∀ t, R (t + 1) = rnd (rd roundKeys (t : Int)) (rd ws (t : Int)) (R t)) (he : ∀ t, Eight (R t)) : Ev (fun k => spec_l05Round.l1 k st roundKeys ws st 0) (sums st (R 64) 8) := by
  have hkl : roundKeys.length = 64 := rfl
  have key : Ev (fun k => spec_l05Round.l1 k st roundKeys ws (R 0) ((0 : Nat) : Int)) (sums st (R 64) 8) := by
    refine Ev.up (g := fun t k => spec_l05Round.l1 k st roundKeys ws (R t) (t : Int)) 64 ?_ ?_ 0 (Nat.zero_le _)
    · intro t ht hh
      obtain ⟨a, b, c, d, e, f, g, i, hv, h1, h2, h3, h4, h5, h6, h7, h8⟩ := (he t).cases
      obtain ⟨K, hK⟩ := hh
      refine ⟨K + 9, fun k hk => ?_⟩
      obtain ⟨k', rfl⟩ : ∃ k', k = k' + 1 + 1 + 1 + 1 + 1 + 1 + 1 + 1 + 1 := ⟨k - 9, by omega⟩
      have hgo := hK k' (by omega)
      simp only [spec_l05Round.l1]
      rw [hv]
      rw [if_pos (by omega), if_pos (by simp), if_pos (by simp), if_pos (by simp), if_pos (by simp), show rd [a, b, c, d, e, f, g, i] 4 = e from rfl, show rd [a, b, c, d, e, f, g, i] 0 = a from rfl, show rd [a, b, c, d, e, f, g, i] 5 = f from rfl, show rd [a, b, c, d, e, f, g, i] 6 = g from rfl, show rd [a, b, c, d, e, f, g, i] 7 = i from rfl, show rd [a, b, c, d, e, f, g, i] 1 = b from rfl, show rd [a, b, c, d, e, f, g, i] 2 = c from rfl, S_e e h5]
      simp only [Option.bind_some]
      rw [if_pos (by omega), if_pos (by omega), if_pos (by omega), if_pos (by simp), if_pos (by simp), if_pos (by simp), S_a a h1]
      simp only [Option.bind_some]
      rw [l2_seven, w64s t (by omega)]
      rw [← hgo, hs t, hv]
      simp only [rnd]
      rw [not32 e h5, show (4294967295 - e) % 4294967296 = 4294967295 - e by have := h5.1; have := h5.2; omega]
      congr 1
      simp only [List.cons.injEq, and_true, true_and]
      constructor <;> omega
    · exact l1_exit ws hst (he 64)
  rw [h0] at key
  exact key
theorem oneBlock_R (st : List Int) (s : ByteArray) (R : Nat → List Int) (hR : R = rounds (impl_wordsOf.v s) st) : impl_oneBlock.v st s = sums st (R 64) 8 := by
  rw [hR]; rfl
theorem l1_ev (s : ByteArray) (st : List Int) (hst : Eight st) : Ev (fun k => spec_l05Round.l1 k st roundKeys (impl_wordsOf.v s) st 0) (impl_oneBlock.v st s) := by
  obtain ⟨R, hR⟩ : ∃ R, R = rounds (impl_wordsOf.v s) st := ⟨_, rfl⟩
  rw [oneBlock_R st s R hR]
  exact l1_R _ st hst (wordsB_len s 48) R (by rw [hR]; rfl) (fun t => by rw [hR]; rfl) (fun t => by rw [hR]; exact rounds_eight hst t)
/-- The reference's round is the program's. -/
theorem spec_l05Round_ev (s : ByteArray) (st : List Int) (hst : Eight st) (hs : s.size = 64) : Ev (fun k => spec_l05Round.f k st roundKeys s) (impl_oneBlock.v st s) := by
  unfold spec_l05Round.f
  exact Ev.bind (spec_l05Words_ev s 16 (by omega) (by decide)) (l0_ev s st roundKeys _ hst.1 (l1_ev s st hst))
theorem sums_8 {st v : List Int} (hst : Eight st) (hv : Eight v) : Eight (sums st v 8) := by
  obtain ⟨a, b, c, d, e, f, g, i, rfl, _⟩ := hv.cases
  obtain ⟨a', b', c', d', e', f', g', i', rfl, _⟩ := hst.cases
  rw [sums_eight]
  exact Eight.mk' (W32.mod _) (W32.mod _) (W32.mod _) (W32.mod _) (W32.mod _) (W32.mod _) (W32.mod _) (W32.mod _)
theorem oneBlock_eight {st : List Int} {s : ByteArray} (h : Eight st) : Eight (impl_oneBlock.v st s) := sums_8 h (rounds_eight h 64)
end Go.Proofs.YtjcmafoepabpkaaDoor.Pure
namespace Go.Proofs.YtjcmafoepabpkaaDoor.Pure
open Go.RowKit Go.Proofs.YtjcmafoepabpkaaDoorW.PrintWords Go.Proofs.YtjcmafoepabpkaaDoorW.PrintLast Go.Proofs.YtjcmafoepabpkaaDoorW.PrintMore Go.Proofs.YtjcmafoepabpkaaDoor.P Go.Proofs.YtjcmafoepabpkaaDoor.Kit
set_option linter.unusedVariables false
set_option linter.unusedSimpArgs false

theorem strOf_app (a b : List Int) : strOfNums a ++ strOfNums b = strOfNums (a ++ b) := by
  apply bytes_ext
  simp [strOfNums, ByteArray.data_append]
theorem strOf_extract (xs : List Int) (a b : Nat) : (strOfNums xs).extract a b = strOfNums ((xs.drop a).take (b - a)) := by
  apply bytes_ext
  rw [ByteArray.data_extract]
  simp [strOfNums, List.map_drop, List.map_take]
theorem empty_app (s : ByteArray) : (⟨#[]⟩ : ByteArray) ++ s = s := by
  apply bytes_ext
  simp [ByteArray.data_append]
theorem bt_strOf (xs : List Int) (j : Nat) (hj : j < xs.length) (h : 0 ≤ xs[j] ∧ xs[j] ≤ 255) : bt (strOfNums xs) (j : Int) = xs[j] := by
  have hs : j < (strOfNums xs).size := by rw [strOfNums_size]; exact hj
  rw [← bt_at (strOfNums xs) (j : Int) (by simpa using hs)]
  simp only [Int.toNat_natCast]
  rw [strOfNums_get xs j hs, UInt8.toNat_ofNat']
  omega

def fourL (x : Int) : List Int := [(x / 16777216) % 256, (x / 65536) % 256, (x / 256) % 256, x % 256]
def bytesW (l : List Int) : List Int := l.flatMap fourL
theorem bytesW_len (l : List Int) : (bytesW l).length = 4 * l.length := by
  induction l with
  | nil => rfl
  | cons x l ih => simp only [bytesW, List.flatMap_cons, List.length_append, List.length_cons] at ih ⊢; rw [ih]; simp [fourL]; omega
theorem bytesW_succ (l : List Int) (i : Nat) (h : i < l.length) : bytesW (l.take (i + 1)) = bytesW (l.take i) ++ fourL l[i] := by
  show (l.take (i + 1)).flatMap fourL = (l.take i).flatMap fourL ++ fourL l[i]
  rw [← take_snoc l i h, List.flatMap_append, List.flatMap_singleton]
theorem spec_l05Bytes_ev (l : List Int) (hl : l.length ≤ 1000000) (hw : ∀ x ∈ l, W32 x) : Ev (fun k => spec_l05Bytes.f k l) (strOfNums (bytesW l)) := by
  refine Ev.up (g := fun i k => spec_l05Bytes.l0 k l (bytesW (l.take i)) (i : Int)) l.length ?_ ?_ 0 (Nat.zero_le _)
  · intro i hi hh
    refine Ev.step (fun k => ?_) hh
    have hx := hw l[i] (List.getElem_mem hi)
    simp only [spec_l05Bytes.l0, Option.bind_some]
    rw [if_pos (by omega), if_pos (by omega), if_pos (by rw [bytesW_len, List.length_take]; simp; omega), w64s i (by omega), bytesW_succ l i hi, rd_get l i hi]
    congr 2
    unfold fourL
    rw [Int.tdiv_eq_ediv_of_nonneg hx.1, Int.tdiv_eq_ediv_of_nonneg hx.1, Int.tdiv_eq_ediv_of_nonneg hx.1, Int.tmod_eq_emod_of_nonneg hx.1]
    have h1 := hx.1
    have h2 := hx.2
    generalize l[i] = x at h1 h2 ⊢
    simp only [List.cons.injEq, and_true]
    refine ⟨by omega, by omega, by omega, by omega⟩
  · refine Ev.step (f := fun _ => some (strOfNums (bytesW l))) (fun k => ?_) (Ev.now _)
    simp only [spec_l05Bytes.l0]
    rw [if_neg (by omega), List.take_length]
theorem stateText_cat (l : List Int) (hl : l.length = 8) : ∀ n, n ≤ 8 → impl_stateText.cat l n = some (strOfNums (bytesW (l.take n)))
  | 0, _ => rfl
  | n + 1, h => by
    simp only [impl_stateText.cat]
    rw [stateText_cat l hl n (by omega)]
    simp only [Option.bind_some]
    show (some (strOfNums (fourL (rd l (n : Int))))).bind _ = _
    simp only [Option.bind_some]
    rw [if_pos (by rw [strOfNums_size, strOfNums_size, bytesW_len, List.length_take]; simp [fourL]; omega), rd_get l n (by omega), strOf_app, bytesW_succ l n (by omega)]
theorem stateText_eq (l : List Int) (hl : l.length = 8) : impl_stateText.f l = some (strOfNums (bytesW l)) := by
  unfold impl_stateText.f
  rw [stateText_cat l hl 8 (Nat.le_refl _), List.take_of_length_le (by omega)]
theorem fourL_range (x : Int) : ∀ y ∈ fourL x, 0 ≤ y ∧ y ≤ 255 := by
  intro y hy
  simp only [fourL, List.mem_cons, List.not_mem_nil, or_false] at hy
  rcases hy with rfl | rfl | rfl | rfl <;> omega
theorem bytesW_range (l : List Int) : ∀ y ∈ bytesW l, 0 ≤ y ∧ y ≤ 255 := by
  intro y hy
  obtain ⟨x, _, hx⟩ := List.mem_flatMap.mp hy
  exact fourL_range x y hx
theorem wordL_bytes {l : List Int} (h : Eight l) : wordL (strOfNums (bytesW l)) 8 = l := by
  obtain ⟨a, b, c, d, e, f, g, i, rfl, h1, h2, h3, h4, h5, h6, h7, h8⟩ := h.cases
  have hb : ∀ (j : Nat) (hj : j < (bytesW [a, b, c, d, e, f, g, i]).length), bt (strOfNums (bytesW [a, b, c, d, e, f, g, i])) (j : Int) = (bytesW [a, b, c, d, e, f, g, i])[j] :=
    fun j hj => bt_strOf _ j hj (bytesW_range _ _ (List.getElem_mem hj))
  have hw : ∀ (t : Nat) (x : Int), W32 x → (∀ q, q < 4 → bt (strOfNums (bytesW [a, b, c, d, e, f, g, i])) ((4 * t + q : Nat) : Int) = (fourL x).getD q 0) → word (strOfNums (bytesW [a, b, c, d, e, f, g, i])) t = x := by
    intro t x hx hq
    unfold word
    have q0 := hq 0 (by decide)
    have q1 := hq 1 (by decide)
    have q2 := hq 2 (by decide)
    have q3 := hq 3 (by decide)
    simp only [Nat.add_zero] at q0
    rw [q0, q1, q2, q3]
    simp only [fourL, List.getD_cons_zero, List.getD_cons_succ]
    have := hx.1
    have := hx.2
    omega
  have h4' : ∀ (t q : Nat) (x : Int), (bytesW [a, b, c, d, e, f, g, i])[4 * t + q]? = some ((fourL x).getD q 0) → bt (strOfNums (bytesW [a, b, c, d, e, f, g, i])) ((4 * t + q : Nat) : Int) = (fourL x).getD q 0 := by
    intro t q x hx
    obtain ⟨hlt, he⟩ := List.getElem?_eq_some_iff.mp hx
    rw [hb _ hlt, he]
  have all4 : ∀ {p : Nat → Prop}, p 0 → p 1 → p 2 → p 3 → ∀ q, q < 4 → p q := by
    intro p p0 p1 p2 p3 q hq
    match q, hq with
    | 0, _ => exact p0
    | 1, _ => exact p1
    | 2, _ => exact p2
    | 3, _ => exact p3
  show [word _ 0, word _ 1, word _ 2, word _ 3, word _ 4, word _ 5, word _ 6, word _ 7] = _
  rw [hw 0 a h1 (all4 (h4' 0 0 a rfl) (h4' 0 1 a rfl) (h4' 0 2 a rfl) (h4' 0 3 a rfl)), hw 1 b h2 (all4 (h4' 1 0 b rfl) (h4' 1 1 b rfl) (h4' 1 2 b rfl) (h4' 1 3 b rfl)), hw 2 c h3 (all4 (h4' 2 0 c rfl) (h4' 2 1 c rfl) (h4' 2 2 c rfl) (h4' 2 3 c rfl)), hw 3 d h4 (all4 (h4' 3 0 d rfl) (h4' 3 1 d rfl) (h4' 3 2 d rfl) (h4' 3 3 d rfl)), hw 4 e h5 (all4 (h4' 4 0 e rfl) (h4' 4 1 e rfl) (h4' 4 2 e rfl) (h4' 4 3 e rfl)), hw 5 f h6 (all4 (h4' 5 0 f rfl) (h4' 5 1 f rfl) (h4' 5 2 f rfl) (h4' 5 3 f rfl)), hw 6 g h7 (all4 (h4' 6 0 g rfl) (h4' 6 1 g rfl) (h4' 6 2 g rfl) (h4' 6 3 g rfl)), hw 7 i h8 (all4 (h4' 7 0 i rfl) (h4' 7 1 i rfl) (h4' 7 2 i rfl) (h4' 7 3 i rfl))]

/-! the blocks -/
theorem first_eight : Eight impl_firstState.v := by
  refine ⟨rfl, ?_⟩
  intro x hx
  simp only [impl_firstState.v, List.mem_cons, List.not_mem_nil, or_false] at hx
  unfold W32
  omega
theorem stAt_eight {st : List Int} (h : Eight st) (s : ByteArray) : ∀ n, Eight (stAt st s n)
  | 0 => h
  | n + 1 => oneBlock_eight (stAt_eight h s n)
theorem ext_in (s e : ByteArray) (a b : Nat) (h : b ≤ s.size) : (s ++ e).extract a b = s.extract a b := by
  rw [ByteArray.extract_append, Nat.sub_eq_zero_of_le h]
  apply bytes_ext
  simp [ByteArray.data_append, ByteArray.data_extract]
theorem stAt_in (st : List Int) (s e : ByteArray) : ∀ n, 64 * n ≤ s.size → stAt st (s ++ e) n = stAt st s n
  | 0, _ => rfl
  | n + 1, h => by
    simp only [stAt]
    rw [stAt_in st s e n (by omega), ext_in s e _ _ (by omega)]
theorem ext_over (s e : ByteArray) (T : List Int) (n j : Nat) (hn : 64 * n ≤ s.size) (hT : s.extract (64 * n) s.size ++ e = strOfNums T) : (s ++ e).extract (64 * (n + j)) (64 * (n + j) + 64) = strOfNums ((T.drop (64 * j)).take 64) := by
  have hP : (s.extract 0 (64 * n)).size = 64 * n := by rw [ByteArray.size_extract]; omega
  have hs : s = s.extract 0 (64 * n) ++ s.extract (64 * n) s.size := by
    rw [ByteArray.extract_append_extract]
    apply bytes_ext
    rw [ByteArray.data_extract]
    simp [Nat.min_eq_left, Nat.max_eq_right hn]
    exact (List.take_of_length_le (by rw [Array.length_toList]; exact Nat.le_refl _)).symm
  have h1 : s ++ e = s.extract 0 (64 * n) ++ strOfNums T := by
    rw [← hT, ← ByteArray.append_assoc, ← hs]
  have h2 := ByteArray.extract_append_size_add (a := s.extract 0 (64 * n)) (b := strOfNums T) (i := 64 * j) (j := 64 * j + 64)
  rw [hP] at h2
  rw [h1, show 64 * (n + j) = 64 * n + 64 * j by omega, show 64 * n + 64 * j + 64 = 64 * n + (64 * j + 64) by omega, h2, strOf_extract]
  congr 2
  omega
theorem blocksAt_ev (s e : ByteArray) (T : List Int) (st : List Int) (hst : Eight st) (n : Nat) (hn : 64 * n ≤ s.size) (hT : s.extract (64 * n) s.size ++ e = strOfNums T) : ∀ j, 64 * j ≤ T.length → Ev (fun k => blocksAt k roundKeys T (stAt st s n) j) (stAt st (s ++ e) (n + j))
  | 0, _ => by
    rw [Nat.add_zero, stAt_in st s e n hn]
    exact Ev.now _
  | j + 1, h => by
    have ih := blocksAt_ev s e T st hst n hn hT j (by omega)
    simp only [blocksAt]
    refine Ev.bind ih ?_
    rw [show n + (j + 1) = n + j + 1 by omega]
    simp only [stAt]
    rw [ext_over s e T n j hn hT]
    exact spec_l05Round_ev _ _ (stAt_eight hst _ _) (by rw [strOfNums_size, List.length_take, List.length_drop]; omega)
end Go.Proofs.YtjcmafoepabpkaaDoor.Pure
namespace Go.Proofs.YtjcmafoepabpkaaDoor.Pure
open Go.RowKit Go.Proofs.YtjcmafoepabpkaaDoorW.PrintWords Go.Proofs.YtjcmafoepabpkaaDoorW.PrintLast Go.Proofs.YtjcmafoepabpkaaDoorW.PrintMore Go.Proofs.YtjcmafoepabpkaaDoor.P Go.Proofs.YtjcmafoepabpkaaDoor.Kit
set_option linter.unusedVariables false
set_option linter.unusedSimpArgs false

theorem sh8_succ (x : Int) (k : Nat) (h0 : 0 ≤ sh8 x k) (h1 : sh8 x k ≤ 4611686018427387904) : sh8 x (k + 1) = sh8 x k / 256 := by
  simp only [sh8]
  rw [Int.tdiv_eq_ediv_of_nonneg h0, w64 (by omega) (by omega)]
theorem endB_eight (x : Int) (h0 : 0 ≤ x) (h1 : x ≤ 4611686018427387904) : endB x 8 = fourL ((x / 4294967296) % 4294967296) ++ fourL (x % 4294967296) := by
  have y0 : sh8 x 0 = x := rfl
  have y1 := sh8_succ x 0 (by rw [y0]; omega) (by rw [y0]; omega)
  rw [y0] at y1
  have y2 := sh8_succ x 1 (by rw [y1]; omega) (by rw [y1]; omega)
  rw [y1] at y2
  have y3 := sh8_succ x 2 (by rw [y2]; omega) (by rw [y2]; omega)
  rw [y2] at y3
  have y4 := sh8_succ x 3 (by rw [y3]; omega) (by rw [y3]; omega)
  rw [y3] at y4
  have y5 := sh8_succ x 4 (by rw [y4]; omega) (by rw [y4]; omega)
  rw [y4] at y5
  have y6 := sh8_succ x 5 (by rw [y5]; omega) (by rw [y5]; omega)
  rw [y5] at y6
  have y7 := sh8_succ x 6 (by rw [y6]; omega) (by rw [y6]; omega)
  rw [y6] at y7
  have e : endB x 8 = [Int.tmod (sh8 x 7) 256 % 256, Int.tmod (sh8 x 6) 256 % 256, Int.tmod (sh8 x 5) 256 % 256, Int.tmod (sh8 x 4) 256 % 256, Int.tmod (sh8 x 3) 256 % 256, Int.tmod (sh8 x 2) 256 % 256, Int.tmod (sh8 x 1) 256 % 256, Int.tmod (sh8 x 0) 256 % 256] := by
    simp [endB]
  rw [e, y7, y6, y5, y4, y3, y2, y1, y0]
  rw [Int.tmod_eq_emod_of_nonneg (by omega), Int.tmod_eq_emod_of_nonneg (by omega), Int.tmod_eq_emod_of_nonneg (by omega), Int.tmod_eq_emod_of_nonneg (by omega), Int.tmod_eq_emod_of_nonneg (by omega), Int.tmod_eq_emod_of_nonneg (by omega), Int.tmod_eq_emod_of_nonneg (by omega), Int.tmod_eq_emod_of_nonneg (by omega)]
  simp only [fourL, List.cons_append, List.nil_append, List.cons.injEq, and_true]
  refine ⟨by omega, by omega, by omega, by omega, by omega, by omega, by omega, by omega⟩
theorem ending_eq (c : Nat) (rest : ByteArray) (hr : rest.size = c % 64) (hc : c ≤ 1000000000) : ∃ e, impl_ending.f (c : Int) = some e ∧ e.size ≤ 200 ∧ rest ++ e = strOfNums (tailE rest (c : Int) 8) := by
  have ez : Int.tmod (wrap64 (119 - (Int.tmod (c : Int) 64))) 64 = ((padN rest : Nat) : Int) := by
    have h1 : Int.tmod (c : Int) 64 = (c : Int) % 64 := Int.tmod_eq_emod_of_nonneg (by omega)
    rw [h1, w64 (by omega) (by omega), Int.tmod_eq_emod_of_nonneg (by omega)]
    unfold padN
    omega
  have hp : padN rest < 64 := Nat.mod_lt _ (by decide)
  have e8 : wrap64 (8 * (c : Int)) = 8 * (c : Int) := w64 (by omega) (by omega)
  have hz : impl_zeros.f ((padN rest : Nat) : Int) = some (strOfNums (List.replicate (padN rest) 0)) := by
    unfold impl_zeros.f
    rw [if_pos (by omega), Int.toNat_natCast, if_pos (by omega)]
  have h8 : impl_eightBytes.f (8 * (c : Int)) = some (strOfNums (fourL ((8 * (c : Int) / 4294967296) % 4294967296) ++ fourL (8 * (c : Int) % 4294967296))) := by
    have key : ∀ hi lo : Int, (if (strOfNums (fourL hi)).size + (strOfNums (fourL lo)).size ≤ 9223372036854775807 then some (strOfNums (fourL hi) ++ strOfNums (fourL lo)) else none) = some (strOfNums (fourL hi ++ fourL lo)) := by
      intro hi lo
      rw [strOf_app]
      exact if_pos (by rw [strOfNums_size, strOfNums_size]; show 4 + 4 ≤ _; decide)
    exact key _ _
  refine ⟨(strOfNums [128] ++ strOfNums (List.replicate (padN rest) 0)) ++ strOfNums (fourL ((8 * (c : Int) / 4294967296) % 4294967296) ++ fourL (8 * (c : Int) % 4294967296)), ?_, ?_, ?_⟩
  · unfold impl_ending.f
    rw [ez, hz, e8, h8]
    simp only [Option.bind_some]
    rw [if_pos (by rw [strOfNums_size]; simp; omega), if_pos (by rw [ByteArray.size_append, strOfNums_size, strOfNums_size]; simp [fourL]; exact (show 1 + padN rest ≤ 9223372036854775799 by omega))]
    rfl
  · rw [ByteArray.size_append, ByteArray.size_append, strOfNums_size, strOfNums_size, strOfNums_size]
    simp [fourL]
    omega
  · unfold tailE tailZ
    rw [e8, endB_eight _ (by omega) (by omega), strOf_app, strOf_app]
    have := strOf_app (bl rest) ([128] ++ List.replicate (padN rest) 0 ++ (fourL ((8 * (c : Int) / 4294967296) % 4294967296) ++ fourL (8 * (c : Int) % 4294967296)))
    rw [strOfNums_bl] at this
    rw [this]
    simp only [List.append_assoc]
theorem hasherOk_eq (a b : ByteArray) (c : Nat) (ha : a.size = 32) (hb : b.size = c % 64) (hc : c ≤ 1000000000) : spec_HasherOk.f a b (c : Int) = some true := by
  unfold spec_HasherOk.f
  rw [if_pos (by omega), if_pos (by omega)]
  have : spec_l01In.f (c : Int) 0 1000000000 = some true := by
    unfold spec_l01In.f
    rw [if_pos (by omega), decide_eq_true (by omega)]
  rw [this]
  simp only [Option.bind_some]
  rw [if_pos trivial, Int.tmod_eq_emod_of_nonneg (by omega)]
  congr 1
  rw [beq_iff_eq]
  omega
def S0 : ByteArray := strOfNums (bytesW impl_firstState.v)
theorem bytes32 {l : List Int} (h : Eight l) : (strOfNums (bytesW l)).size = 32 := by
  rw [strOfNums_size, bytesW_len, h.1]
theorem spec_HasherNew_ev : Ev (fun k => spec_HasherNew.f k) (S0, (⟨#[]⟩ : ByteArray), 0) := by
  unfold spec_HasherNew.f
  refine Ev.then (a := impl_firstState.v) rfl ?_
  refine Ev.bind (spec_l05Bytes_ev _ (by decide) first_eight.2) ?_
  exact Ev.now _
theorem words_ev {l : List Int} (h : Eight l) : Ev (fun k => spec_l05Words.f k (strOfNums (bytesW l))) l := by
  have := spec_l05Words_ev (strOfNums (bytesW l)) 8 (bytes32 h) (by decide)
  rwa [wordL_bytes h] at this
theorem K_eq : spec_l05K.f = some roundKeys := rfl
theorem spec_HashMore_ev (s : ByteArray) (hs : s.size ≤ 1000000000) : Ev (fun k => spec_HashMore.f k S0 (⟨#[]⟩ : ByteArray) 0 s) (strOfNums (bytesW (stAt impl_firstState.v s (s.size / 64))), s.extract (64 * (s.size / 64)) s.size, (s.size : Int)) := by
  unfold spec_HashMore.f
  refine Ev.then (hasherOk_eq S0 _ 0 (bytes32 first_eight) rfl (by decide)) ?_
  refine Ev.pos rfl ?_
  have e0 : wrap64 (0 + (s.size : Int)) = (s.size : Int) := by rw [w64 (by omega) (by omega)]; omega
  have hd : decide (wrap64 (0 + (s.size : Int)) > 1000000000) = false := by rw [e0]; exact decide_eq_false (by omega)
  rw [hd]
  refine Ev.step (f := fun k => (spec_l05Words.f k S0).bind fun t => (spec_l05K.f).bind fun t2 => (spec_HashMore.l0 k s t t2 s 0 S0 (⟨#[]⟩ : ByteArray) 0)) (fun k => ?_) ?_
  · simp only [spec_HashMore.j0]
    have hz : (⟨#[]⟩ : ByteArray).size + s.size ≤ 9223372036854775807 := (show 0 + s.size ≤ 9223372036854775807 by omega)
    rw [if_neg (by decide), empty_app]
    simp only [if_pos hz]
  refine Ev.bind (words_ev first_eight) ?_
  refine Ev.then K_eq ?_
  refine Ev.up (g := fun n k => spec_HashMore.l0 k s (stAt impl_firstState.v s n) roundKeys s ((64 * n : Nat) : Int) S0 (⟨#[]⟩ : ByteArray) 0) (s.size / 64) ?_ ?_ 0 (Nat.zero_le _)
  · intro n hn hh
    have e1 : wrap64 (((64 * n : Nat) : Int) + 64) = ((64 * (n + 1) : Nat) : Int) := by rw [w64 (by omega) (by omega)]; omega
    refine Ev.step (f := fun k => (spec_l05Round.f k (stAt impl_firstState.v s n) roundKeys (s.extract (64 * n) (64 * n + 64))).bind fun t => spec_HashMore.l0 k s t roundKeys s ((64 * (n + 1) : Nat) : Int) S0 (⟨#[]⟩ : ByteArray) 0) (fun k => ?_) ?_
    · simp only [spec_HashMore.l0]
      rw [e1, if_pos (by omega), if_pos (by omega), if_pos (by omega), Int.toNat_natCast, Int.toNat_natCast, show 64 * (n + 1) = 64 * n + 64 by omega]
    exact Ev.bind (spec_l05Round_ev _ _ (stAt_eight first_eight s n) (by rw [ByteArray.size_extract]; omega)) hh
  · have e1 : wrap64 (((64 * (s.size / 64) : Nat) : Int) + 64) = ((64 * (s.size / 64 + 1) : Nat) : Int) := by rw [w64 (by omega) (by omega)]; omega
    refine Ev.step (f := fun k => (spec_l05Bytes.f k (stAt impl_firstState.v s (s.size / 64))).bind fun t => some (t, s.extract (64 * (s.size / 64)) s.size, (s.size : Int))) (fun k => ?_) ?_
    · simp only [spec_HashMore.l0]
      have ha : (0 : Int) ≤ ((64 * (s.size / 64) : Nat) : Int) := by omega
      have hb : ((64 * (s.size / 64) : Nat) : Int) ≤ (s.size : Int) := by omega
      rw [e1, if_neg (by omega)]
      simp only [if_pos ha, if_pos hb, Int.toNat_natCast, e0]
    exact Ev.bind (spec_l05Bytes_ev _ (by rw [(stAt_eight first_eight s _).1]; decide) (stAt_eight first_eight s _).2) (Ev.now _)
/-- Both digests of a text. -/
theorem digest_same (s : ByteArray) (hs : s.size ≤ 1000000000) : ∃ d, d.size = 32 ∧ Ev (fun k => spec_DigestOf.f k s) d ∧ impl_DigestOf.f s = some d := by
  have hrs : (s.extract (64 * (s.size / 64)) s.size).size = s.size % 64 := by rw [ByteArray.size_extract]; omega
  obtain ⟨e, he, hes, hT⟩ := ending_eq s.size (s.extract (64 * (s.size / 64)) s.size) hrs hs
  have hTl := tailE_len (s.extract (64 * (s.size / 64)) s.size) (s.size : Int) 8
  have hpad : (s.size % 64 + 1 + padN (s.extract (64 * (s.size / 64)) s.size) + 8) % 64 = 0 := by unfold padN; rw [hrs]; omega
  have hes2 : e.size + s.size % 64 = s.size % 64 + 1 + padN (s.extract (64 * (s.size / 64)) s.size) + 8 := by
    have := congrArg ByteArray.size hT
    rw [ByteArray.size_append, strOfNums_size, hTl, hrs] at this
    omega
  rw [hrs] at hTl
  have hn : (s ++ e).size / 64 = s.size / 64 + (tailE (s.extract (64 * (s.size / 64)) s.size) (s.size : Int) 8).length / 64 := by
    rw [ByteArray.size_append, hTl]
    omega
  refine ⟨strOfNums (bytesW (stAt impl_firstState.v (s ++ e) ((s ++ e).size / 64))), bytes32 (stAt_eight first_eight _ _), ?_, ?_⟩
  · unfold spec_DigestOf.f
    refine Ev.bind spec_HasherNew_ev ?_
    refine Ev.bind (spec_HashMore_ev s hs) ?_
    refine Ev.bind (a := strOfNums (bytesW (stAt impl_firstState.v (s ++ e) ((s ++ e).size / 64)))) ?_ (Ev.now _)
    show Ev (fun k => spec_HashEnd.f k (strOfNums (bytesW (stAt impl_firstState.v s (s.size / 64)))) (s.extract (64 * (s.size / 64)) s.size) (s.size : Int)) _
    unfold spec_HashEnd.f
    refine Ev.then (hasherOk_eq _ _ _ (bytes32 (stAt_eight first_eight s _)) hrs hs) ?_
    refine Ev.pos rfl ?_
    refine Ev.bind (words_ev (stAt_eight first_eight s _)) ?_
    refine Ev.then K_eq ?_
    refine Ev.bind (blocksAt_ev s e _ _ first_eight (s.size / 64) (by omega) hT _ (by omega)) ?_
    rw [← hn]
    exact spec_l05Bytes_ev _ (by rw [(stAt_eight first_eight _ _).1]; decide) (stAt_eight first_eight _ _).2
  · unfold impl_DigestOf.f
    rw [he]
    simp only [Option.bind_some]
    rw [if_pos (by omega), stateText_eq _ (stAt_eight first_eight _ _).1]
end Go.Proofs.YtjcmafoepabpkaaDoor.Pure
namespace Go.Proofs.YtjcmafoepabpkaaDoor.Pure
open Go.RowKit Go.Proofs.YtjcmafoepabpkaaDoorW.PrintWords Go.Proofs.YtjcmafoepabpkaaDoorW.PrintLast Go.Proofs.YtjcmafoepabpkaaDoorW.PrintMore Go.Proofs.YtjcmafoepabpkaaDoor.P Go.Proofs.YtjcmafoepabpkaaDoor.Kit
set_option linter.unusedVariables false
set_option linter.unusedSimpArgs false

/-- One byte. -/
def byteD (n : Int) : ByteArray := strOfNums [n % 256]
theorem byteD_size (n : Int) : (byteD n).size = 1 := by simp [byteD, strOfNums_size]
theorem oneByte_eq (n : Int) : impl_oneByte.f n = some (byteD n) := rfl
theorem tmod_bounds (n : Int) : -256 < Int.tmod n 256 ∧ Int.tmod n 256 < 256 ∧ (Int.tmod n 256) % 256 = n % 256 := by
  have h := Int.mul_tdiv_add_tmod n 256
  have h1 := Int.tmod_lt_of_pos n (show (0 : Int) < 256 by decide)
  have h2 := Int.lt_tmod_of_pos n (show (0 : Int) < 256 by decide)
  refine ⟨h2, h1, ?_⟩
  omega
theorem l06Byte_eq (n : Int) : spec_l06Byte.f n = some (byteD n) := by
  obtain ⟨h1, h2, h3⟩ := tmod_bounds n
  unfold spec_l06Byte.f byteD
  split
  · rw [w64 (by omega) (by omega), show (Int.tmod n 256 + 256) % 256 = n % 256 by omega]
  · rw [h3]
end Go.Proofs.YtjcmafoepabpkaaDoor.Pure
namespace Go.Proofs.YtjcmafoepabpkaaDoor.Pure
open Go.RowKit Go.Proofs.YtjcmafoepabpkaaDoorW.PrintWords Go.Proofs.YtjcmafoepabpkaaDoorW.PrintLast Go.Proofs.YtjcmafoepabpkaaDoorW.PrintMore Go.Proofs.YtjcmafoepabpkaaDoor.P Go.Proofs.YtjcmafoepabpkaaDoor.Kit
set_option linter.unusedVariables false
set_option linter.unusedSimpArgs false

theorem impl_in_eq (a b c : Int) : impl_in.f a b c = some (decide (b ≤ a ∧ a ≤ c)) := by
  unfold impl_in.f
  by_cases h : b ≤ a
  · rw [if_pos (by omega)]
    by_cases h2 : a ≤ c
    · rw [decide_eq_true h2, decide_eq_true ⟨h, h2⟩]
    · rw [decide_eq_false h2, decide_eq_false (fun q => h2 q.2)]
  · rw [if_neg (by omega), decide_eq_false (fun q => h q.1)]
end Go.Proofs.YtjcmafoepabpkaaDoor.Pure
namespace Go.Proofs.YtjcmafoepabpkaaDoor.Pure
set_option linter.unusedVariables false
set_option linter.unusedSimpArgs false
open Go.RowKit Go.Proofs.YtjcmafoepabpkaaDoorW.PrintWords Go.Proofs.YtjcmafoepabpkaaDoorW.PrintLast Go.Proofs.YtjcmafoepabpkaaDoorW.PrintMore Go.Proofs.YtjcmafoepabpkaaDoor.P Go.Proofs.YtjcmafoepabpkaaDoor.Kit

theorem xorA_get (l : List Int) (x : Int) (j : Nat) (hj : j < l.length) : ∀ m, (xorA l x m).getD j 0 = if j < m then Go.bits .xor .u8 (l.getD j 0) x else l.getD j 0
  | 0 => by simp [xorA]
  | m + 1 => by
    have ih := xorA_get l x j hj m
    have hl := xorA_len l x m
    simp only [xorA]
    by_cases h : m = j
    · subst h
      rw [if_neg (by omega)] at ih
      rw [if_pos (by omega), ← ih]
      simp [List.getD, hl, hj]
    · have e : ((xorA l x m).set m (Go.bits .xor .u8 ((xorA l x m).getD m 0) x)).getD j 0 = (xorA l x m).getD j 0 := by
        simp only [List.getD, List.getElem?_set_ne h]
      rw [e, ih]
      by_cases h2 : j < m
      · rw [if_pos h2, if_pos (by omega)]
      · rw [if_neg h2, if_neg (by omega)]
theorem maskA_get (d : ByteArray) (x : Int) (j : Nat) (hj : j < 64) : ∀ m, (maskA d x m).getD j 0 = if j < m then Go.bits .xor .u8 (if j < d.size then bt d (j : Int) else 0) x else 0
  | 0 => by rw [maskA_hi d x j hj 0 (Nat.zero_le _)]; simp
  | m + 1 => by
    have ih := maskA_get d x j hj m
    have hl := maskA_len d x m
    simp only [maskA]
    by_cases h : m = j
    · subst h
      rw [if_pos (show m < m + 1 by omega)]
      simp [List.getD, hl, hj]
    · have e : ∀ u, ((maskA d x m).set m u).getD j 0 = (maskA d x m).getD j 0 := fun u => by
        simp only [List.getD, List.getElem?_set_ne h]
      rw [e, ih]
      by_cases h2 : j < m
      · rw [if_pos h2, if_pos (show j < m + 1 by omega)]
      · rw [if_neg h2, if_neg (show ¬ j < m + 1 by omega)]
theorem ext_getD {a b : List Int} (h : a.length = b.length) (hg : ∀ j, j < a.length → a.getD j 0 = b.getD j 0) : a = b :=
  List.ext_getElem h fun i h1 h2 => by
    have := hg i h1
    simpa [List.getD, h1, h2] using this
def zerosV (n : Nat) : ByteArray := strOfNums (List.replicate n 0)
theorem zerosV_size (n : Nat) : (zerosV n).size = n := by simp [zerosV, strOfNums_size]
theorem bl_zeros (n : Nat) : bl (zerosV n) = List.replicate n 0 := by simp [zerosV, bl, strOfNums]
theorem bl_at (d : ByteArray) (j : Nat) (hj : j < d.size) : (bl d).getD j 0 = bt d (j : Int) := by
  have h := bt_at d (j : Int) (by simpa using hj)
  simp only [Int.toNat_natCast] at h
  have hj' : j < d.data.toList.length := by rw [Array.length_toList]; exact hj
  rw [← h]
  simp only [bl, List.getD, List.getElem?_map, List.getElem?_eq_getElem hj', Option.map_some, Option.getD_some, Array.getElem_toList]
  rfl
theorem bl_filled (d : ByteArray) (hd : d.size ≤ 64) (j : Nat) (hj : j < 64) : (bl (d ++ zerosV (64 - d.size))).getD j 0 = if j < d.size then bt d (j : Int) else 0 := by
  have e : bl (d ++ zerosV (64 - d.size)) = bl d ++ List.replicate (64 - d.size) 0 := by rw [← bl_zeros]; simp [bl]
  rw [e]
  by_cases h : j < d.size
  · rw [if_pos h, ← bl_at d j h]
    simp only [List.getD, List.getElem?_append_left (show j < (bl d).length by rw [bl_len]; exact h)]
  · rw [if_neg h]
    simp only [List.getD, List.getElem?_append_right (show (bl d).length ≤ j by rw [bl_len]; omega), List.getElem?_replicate]
    split <;> rfl
def maskV (d : ByteArray) (x : Int) : ByteArray := strOfNums (maskA d x 64)
theorem maskV_size (d : ByteArray) (x : Int) : (maskV d x).size = 64 := by rw [maskV, strOfNums_size, maskA_len]
theorem xored_key (d : ByteArray) (hd : d.size ≤ 64) (x : Int) : impl_xored.f (d ++ zerosV (64 - d.size)) x = some (maskV d x) := by
  have hs : (d ++ zerosV (64 - d.size)).size = 64 := by rw [ByteArray.size_append, zerosV_size]; omega
  have e : xorA (bl (d ++ zerosV (64 - d.size))) x 64 = maskA d x 64 := by
    have hl : (bl (d ++ zerosV (64 - d.size))).length = 64 := by rw [bl_len, hs]
    refine ext_getD (by rw [xorA_len, maskA_len, hl]) fun j hj => ?_
    rw [xorA_len, hl] at hj
    rw [xorA_get _ _ _ (by omega), maskA_get _ _ _ hj, if_pos hj, if_pos hj, bl_filled d hd j hj]
  unfold impl_xored.f maskV
  rw [hs, if_pos (by decide), e]
theorem zeros_key (d : ByteArray) (hd : d.size ≤ 64) : impl_zeros.f (wrap64 (64 - (d.size : Int))) = some (zerosV (64 - d.size)) := by
  have e : wrap64 (64 - (d.size : Int)) = ((64 - d.size : Nat) : Int) := by rw [w64 (by omega) (by omega)]; omega
  unfold impl_zeros.f zerosV
  rw [e, if_pos (by omega), Int.toNat_natCast, if_pos (by omega)]
theorem macOf_j0 (K s d e : ByteArray) (hK : K.size ≤ 64) (hs : s.size ≤ 900000000) (hd : d.size = 32) (h1 : impl_DigestOf.f (maskV K 54 ++ s) = some d) (h2 : impl_DigestOf.f (maskV K 92 ++ d) = some e) : Ev (fun k => impl_MacOf.j0 k K s) e := by
  have z := zerosV_size (64 - K.size)
  have m1 := maskV_size K 54
  have m2 := maskV_size K 92
  refine Ev.step (f := fun _ => some e) (fun k => ?_) (Ev.now _)
  simp only [impl_MacOf.j0]
  rw [zeros_key K hK]
  simp only [Option.bind_some]
  rw [if_pos (by omega), xored_key K hK, xored_key K hK]
  simp only [Option.bind_some]
  rw [if_pos (by omega), h1]
  simp only [Option.bind_some]
  rw [if_pos (by omega), h2]
  rfl
/-- Both sums under a key are the same. -/
theorem mac_same (key s : ByteArray) (hk : key.size ≤ 1000000000) (hs : s.size ≤ 900000000) : ∃ d, d.size = 32 ∧ Ev (fun k => spec_MacOf.f k key s) d ∧ Ev (fun k => impl_MacOf.f k key s) d := by
  have hK : ∃ K : ByteArray, K.size ≤ 64 ∧ (∀ x, Ev (fun k => spec_l06Mask.f k key x) (maskV K x)) ∧ ∀ R, Ev (fun k => impl_MacOf.j0 k K s) R → Ev (fun k => impl_MacOf.f k key s) R := by
    by_cases h : 64 < key.size
    · obtain ⟨d, d32, f1, f2⟩ := digest_same key hk
      refine ⟨d, by omega, fun x => ?_, fun R hR => ?_⟩
      · unfold spec_l06Mask.f
        exact Ev.pos h (Ev.bind f1 (Ev.pos (by omega) (Ev.now _)))
      · unfold impl_MacOf.f
        exact Ev.pos (by omega) (Ev.then f2 hR)
    · refine ⟨key, by omega, fun x => ?_, fun R hR => ?_⟩
      · unfold spec_l06Mask.f
        exact Ev.neg h (Ev.now _)
      · unfold impl_MacOf.f
        exact Ev.neg (by omega) hR
  obtain ⟨K, hK64, hspec, himpl⟩ := hK
  have m1 := maskV_size K 54
  have m2 := maskV_size K 92
  obtain ⟨d, d32, f1, f2⟩ := digest_same (maskV K 54 ++ s) (by rw [ByteArray.size_append]; omega)
  obtain ⟨e, e32, g1, g2⟩ := digest_same (maskV K 92 ++ d) (by rw [ByteArray.size_append]; omega)
  refine ⟨e, e32, ?_, himpl e (macOf_j0 K s d e hK64 hs d32 f2 g2)⟩
  unfold spec_MacOf.f
  exact Ev.bind (hspec 92) (Ev.bind (hspec 54) (Ev.pos (by omega) (Ev.bind f1 (Ev.pos (by omega) (Ev.bind g1 (Ev.now _))))))
theorem var_l0 : ∀ (b n : Nat) (acc : List Int), n < 128 ^ (b + 1) → n ≤ 1000000000 → acc.length + b ≤ 100 → ∃ v : ByteArray, v.size ≤ acc.length + b + 1 ∧ Ev (fun k => spec_l01Var.l0 k (n : Int) acc) v ∧ Ev (fun k => impl_varText.l0 k (n : Int) acc) v := by
  have last : ∀ (n : Nat) (acc : List Int), n ≤ 127 → acc.length ≤ 100 → Ev (fun k => spec_l01Var.l0 k (n : Int) acc) (strOfNums (acc ++ [(n : Int) % 256])) ∧ Ev (fun k => impl_varText.l0 k (n : Int) acc) (strOfNums (acc ++ [(n : Int) % 256])) := by
    intro n acc hn ha
    refine ⟨Ev.step (f := fun _ => some _) (fun k => ?_) (Ev.now _), Ev.step (f := fun _ => some _) (fun k => ?_) (Ev.now _)⟩
    · simp only [spec_l01Var.l0]
      rw [if_neg (by omega), if_pos (by omega)]
    · simp only [impl_varText.l0]
      rw [if_neg (by omega), if_pos (by omega)]
  intro b
  induction b with
  | zero =>
    intro n acc hn h9 ha
    obtain ⟨f1, f2⟩ := last n acc (by simp at hn; omega) (by omega)
    exact ⟨_, by rw [strOfNums_size]; simp, f1, f2⟩
  | succ b ih =>
    intro n acc hn h9 ha
    by_cases h : n ≤ 127
    · obtain ⟨f1, f2⟩ := last n acc h (by omega)
      exact ⟨_, by rw [strOfNums_size, List.length_append]; show acc.length + 1 ≤ _; omega, f1, f2⟩
    · have hsm : n / 128 < 128 ^ (b + 1) := Nat.div_lt_of_lt_mul (by rw [Nat.mul_comm]; rw [← Nat.pow_succ]; exact hn)
      obtain ⟨v, v1, f1, f2⟩ := ih (n / 128) (acc ++ [((n % 128 + 128 : Nat) : Int)]) hsm (by omega) (by simp; omega)
      clear hn hsm ih
      have e1 : wrap64 (Int.tdiv (n : Int) 128) = ((n / 128 : Nat) : Int) := by rw [Int.tdiv_eq_ediv_of_nonneg (by omega), w64 (by omega) (by omega)]; omega
      have e2 : Int.tmod (n : Int) 128 = ((n % 128 : Nat) : Int) := by rw [Int.tmod_eq_emod_of_nonneg (by omega)]; omega
      have e3 : wrap64 (((n % 128 : Nat) : Int) + 128) % 256 = ((n % 128 + 128 : Nat) : Int) := by rw [w64 (by omega) (by omega)]; omega
      have e4 : wrap64 (128 + ((n % 128 : Nat) : Int)) % 256 = ((n % 128 + 128 : Nat) : Int) := by rw [w64 (by omega) (by omega)]; omega
      refine ⟨v, by simp at v1; omega, Ev.step (fun k => ?_) f1, Ev.step (fun k => ?_) f2⟩
      · simp only [spec_l01Var.l0]
        rw [if_pos (by clear e1 e2 e3 e4; omega), if_pos (by clear e1 e2 e3 e4; omega), e1, e2, e3]
      · simp only [impl_varText.l0]
        rw [if_pos (by clear e1 e2 e3 e4; omega), if_pos (by clear e1 e2 e3 e4; omega), e1, e2, e4]
theorem var_same (n : Nat) (hn : n ≤ 1000000000) : ∃ v : ByteArray, v.size ≤ 10 ∧ Ev (fun k => spec_l01Var.f k (n : Int)) v ∧ Ev (fun k => impl_varText.f k (n : Int)) v := by
  obtain ⟨v, v1, f1, f2⟩ := var_l0 4 n [] (by omega) hn (by decide)
  exact ⟨v, by simp at v1; omega, f1, f2⟩
theorem mask_l0 (key : ByteArray) (num n : Nat) (v : ByteArray) (hk : key.size ≤ 1000000000) (hv : v.size ≤ 10) (hn : n ≤ 8000) (hvar : Ev (fun k => spec_l01Var.f k (num : Int)) v) : ∀ (d i : Nat) (o : ByteArray), o.size = 32 * i → n ≤ o.size + d → ∃ R, Ev (fun k => spec_Mask.l0 k key (num : Int) n o i) R ∧ Ev (fun k => impl_Mask.l0 k key (n : Int) v o (i : Int)) (R, true) := by
  have last : ∀ (i : Nat) (o : ByteArray), n ≤ o.size → Ev (fun k => spec_Mask.l0 k key (num : Int) n o i) (o.extract 0 n) ∧ Ev (fun k => impl_Mask.l0 k key (n : Int) v o (i : Int)) (o.extract 0 n, true) := by
    intro i o h
    refine ⟨Ev.step (f := fun _ => some _) (fun k => ?_) (Ev.now _), Ev.step (f := fun _ => some _) (fun k => ?_) (Ev.now _)⟩
    · simp only [spec_Mask.l0]
      rw [if_neg (by omega)]
    · simp only [impl_Mask.l0]
      rw [if_neg (by omega), if_pos (by omega), if_pos (by omega)]
      rfl
  intro d
  induction d with
  | zero =>
    intro i o ho hd
    exact ⟨_, last i o (by omega)⟩
  | succ d ih =>
    intro i o ho hd
    by_cases h : n ≤ o.size
    · exact ⟨_, last i o h⟩
    have hb := byteD_size (i : Int)
    have z1 : ((⟨#[109]⟩ : ByteArray) ++ v).size = 1 + v.size := by rw [ByteArray.size_append]; rfl
    have z2 : (((⟨#[109]⟩ : ByteArray) ++ v) ++ byteD (i : Int)).size = 2 + v.size := by rw [ByteArray.size_append, z1, hb]; omega
    obtain ⟨t, t32, f1, f2⟩ := mac_same key (((⟨#[109]⟩ : ByteArray) ++ v) ++ byteD (i : Int)) hk (by omega)
    obtain ⟨R, g1, g2⟩ := ih (i + 1) (o ++ t) (by rw [ByteArray.size_append]; omega) (by rw [ByteArray.size_append]; omega)
    refine ⟨R, ?_, ?_⟩
    · refine Ev.step (fun k => by simp only [spec_Mask.l0]; rfl) ?_
      exact Ev.pos (by omega) (Ev.pos (by omega) (Ev.bind hvar (Ev.then (l06Byte_eq _) (Ev.pos (by omega) (Ev.bind f1 (Ev.pos (by omega) g1))))))
    · refine Ev.step (fun k => by simp only [impl_Mask.l0]; rw [w64s i (by omega)]) ?_
      exact Ev.pos (by omega) (Ev.pos (by omega) (Ev.then (oneByte_eq _) (Ev.pos (by omega) (Ev.bind f2 (Ev.pos (by omega) g2)))))
theorem mask_same (key : ByteArray) (num n : Int) (hk : key.size ≤ 1000000000) : ∃ R b, Ev (fun k => spec_Mask.f k key num n) (R, b) ∧ Ev (fun k => impl_Mask.f k key num n) (R, b) := by
  have no : ∀ v : ByteArray, Ev (fun k => impl_Mask.j0 k key n v true) ((⟨#[]⟩ : ByteArray), false) := fun v => Ev.step (f := fun _ => some _) (fun k => by simp only [impl_Mask.j0]; rw [if_pos trivial]) (Ev.now _)
  by_cases h1 : 0 ≤ num ∧ num ≤ 1000000000
  · obtain ⟨m, rfl⟩ := Int.eq_ofNat_of_zero_le h1.1
    obtain ⟨v, v10, f1, f2⟩ := var_same m (by omega)
    have g : Ev (fun k => impl_VarText.f k (m : Int)) (v, true) := by
      unfold impl_VarText.f
      exact Ev.then (impl_in_eq _ _ _) (Ev.pos (decide_eq_true (by omega)) (Ev.bind f2 (Ev.now _)))
    by_cases h2 : 0 ≤ n ∧ n ≤ 8000
    · obtain ⟨q, rfl⟩ := Int.eq_ofNat_of_zero_le h2.1
      obtain ⟨R, e1, e2⟩ := mask_l0 key m q v hk v10 (by omega) f1 q 0 (⟨#[]⟩ : ByteArray) rfl (by omega)
      refine ⟨R, true, ?_, ?_⟩
      · unfold spec_Mask.f
        exact Ev.pos h1 (Ev.pos h2 (Ev.bind e1 (Ev.now _)))
      · unfold impl_Mask.f
        refine Ev.bind g (Ev.pos rfl (Ev.then (impl_in_eq _ _ _) ?_))
        rw [decide_eq_true (by omega)]
        exact Ev.step (fun k => by simp only [impl_Mask.j0]; rw [if_neg (by decide)]; rfl) e2
    · refine ⟨(⟨#[]⟩ : ByteArray), false, ?_, ?_⟩
      · unfold spec_Mask.f
        exact Ev.pos h1 (Ev.neg h2 (Ev.now _))
      · unfold impl_Mask.f
        refine Ev.bind g (Ev.pos rfl (Ev.then (impl_in_eq _ _ _) ?_))
        rw [decide_eq_false h2]
        exact no v
  · refine ⟨(⟨#[]⟩ : ByteArray), false, ?_, ?_⟩
    · unfold spec_Mask.f
      exact Ev.neg h1 (Ev.now _)
    · unfold impl_Mask.f impl_VarText.f
      refine Ev.bind (Ev.then (impl_in_eq _ _ _) (Ev.neg (by rw [decide_eq_false h1]; decide) (Ev.now _))) (Ev.neg (by decide) (no _))
end Go.Proofs.YtjcmafoepabpkaaDoor.Pure
