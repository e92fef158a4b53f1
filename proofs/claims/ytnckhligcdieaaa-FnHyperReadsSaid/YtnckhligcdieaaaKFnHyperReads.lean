/- Plain laws that the law FnHyperReads rests on. -/
import Derived.Test.YtnckhligcdieaaaHC1
import Derived.Test.YtnckhligcdieaaaPx0
import Derived.Test.YtnckhligcdieaaaV0
import Derived.Laws.BitsAllLaws
import Derived.Laws.BitsLemmas
import Derived.Test.YtnckhligcdieaaaHA5
import Derived.Test.YtnckhligcdieaaaMW3
import Derived.Test.YtnckhligcdieaaaPx1
import Derived.Test.YtnckhligcdieaaaPx2
import Derived.Test.YtnckhligcdieaaaPx3
import Derived.Test.YtnckhligcdieaaaPx4
import Derived.Test.YtnckhligcdieaaaPx5
import Derived.Test.YtnckhligcdieaaaPx10
import Derived.Test.YtnckhligcdieaaaPx11
import Derived.Test.YtnckhligcdieaaaPx12
import Derived.Test.YtnckhligcdieaaaPx13
import Derived.Test.YtnckhligcdieaaaPx14
import Derived.Test.YtnckhligcdieaaaHC1
import Derived.Test.YtnckhligcdieaaaHA5
namespace Go.Proofs.Ytnckhligcdieaaa.Pure
open Go.RowKit Go.Proofs.YtnckhligcdieaaaW.PrintWords Go.Proofs.YtnckhligcdieaaaW.PrintLast Go.Proofs.YtnckhligcdieaaaW.PrintMore

theorem w64 {x : Int} (h1 : -9223372036854775808 ≤ x) (h2 : x ≤ 9223372036854775807) : wrap64 x = x := by unfold wrap64; omega
theorem w64s (n : Nat) (h : n < 9223372036854775807) : wrap64 ((n : Int) + 1) = ((n + 1 : Nat) : Int) := by rw [w64 (by omega) (by omega)]; rfl
theorem Ev.pos {α : Type} {c : Prop} [Decidable c] {f g : Nat → Option α} {r : α} (hc : c) (h : Ev f r) : Ev (fun k => if c then f k else g k) r := by
 simpa only [if_pos hc] using h
theorem Ev.neg {α : Type} {c : Prop} [Decidable c] {f g : Nat → Option α} {r : α} (hc : ¬ c) (h : Ev g r) : Ev (fun k => if c then f k else g k) r := by
 simpa only [if_neg hc] using h
theorem Ev.const {α : Type} {o : Option α} {r : α} (h : o = some r) : Ev (fun _ => o) r := ⟨0, fun _ _ => h⟩
theorem Ev.then {α β : Type} {o : Option α} {f : Nat → α → Option β} {a : α} {r : β} (h : o = some a) (k : Ev (fun n => f n a) r) : Ev (fun n => o.bind (f n)) r := by
 subst h; exact k
/-- A loop that goes up: what it answers at the end, it answers from the start. -/
theorem Ev.up {α : Type} {g : Nat → Nat → Option α} {r : α} (n : Nat) (hs : ∀ i, i < n → Ev (g (i + 1)) r → Ev (g i) r) (he : Ev (g n) r) (i : Nat) (hi : i ≤ n) : Ev (g i) r := by
 obtain ⟨d, rfl⟩ : ∃ d, n = i + d := ⟨n - i, by omega⟩
 induction d generalizing i with
 | zero => exact he
 | succ d ih =>
  refine hs i (by omega) (ih (i + 1) ?_ ?_ (by omega))
  ·intro j hj h
   exact hs j (by omega) h
  ·rw [show i + 1 + d = i + (d + 1) by omega]; exact he
/-- A loop that may stop early. -/
theorem Ev.upTo {α : Type} {g : Nat → Nat → Option α} {r : Nat → α} (n : Nat) (hs : ∀ i, i < n → Ev (g (i + 1)) (r (i + 1)) → Ev (g i) (r i)) (he : Ev (g n) (r n)) (i : Nat) (hi : i ≤ n) : Ev (g i) (r i) := by
 obtain ⟨d, rfl⟩ : ∃ d, n = i + d := ⟨n - i, by omega⟩
 induction d generalizing i with
 | zero => exact he
 | succ d ih =>
  refine hs i (by omega) (ih (i + 1) ?_ ?_ (by omega))
  ·intro j hj h
   exact hs j (by omega) h
  ·rw [show i + 1 + d = i + (d + 1) by omega]; exact he

theorem rd_nat (l : List Int) (i : Nat) : rd l (i : Int) = l.getD i 0 := by simp [rd]
theorem rd_get (l : List Int) (i : Nat) (h : i < l.length) : rd l (i : Int) = l[i] := by simp [rd, List.getD_eq_getElem?_getD, List.getElem?_eq_getElem h]
theorem rd_int (l : List Int) (x : Int) (h0 : 0 ≤ x) (h : x < l.length) : rd l x = l[x.toNat]'(by omega) := by
 simp [rd, List.getD_eq_getElem?_getD, List.getElem?_eq_getElem (show x.toNat < l.length by omega)]
theorem rdOf_get {α : Type} (d : α) (l : List α) (i : Nat) (h : i < l.length) : rdOf d l (i : Int) = l[i] := by simp [rdOf, List.getD_eq_getElem?_getD, List.getElem?_eq_getElem h]
theorem rd_mem (l : List Int) (x : Int) (h0 : 0 ≤ x) (h : x < l.length) : rd l x ∈ l := by rw [rd_int l x h0 h]; exact List.getElem_mem _
theorem drop_all {α : Type} (p : α → Bool) (l : List α) (i : Nat) (h : i < l.length) : (l.drop i).all p = (p l[i] && (l.drop (i + 1)).all p) := by
 rw [List.drop_eq_getElem_cons h, List.all_cons]
theorem take_snoc {α : Type} (l : List α) (i : Nat) (h : i < l.length) : l.take i ++ [l[i]] = l.take (i + 1) := by simp
theorem some_in (a b c : Int) : (if a ≥ b then (some (decide (a ≤ c))) else (some false)) = some (decide (b ≤ a ∧ a ≤ c)) := by
 by_cases h : a ≥ b
 ·rw [if_pos h]; congr 1; rw [decide_eq_decide]; constructor
  ·intro h2; exact ⟨h, h2⟩
  ·intro h2; exact h2.2
 ·rw [if_neg h]; congr 1; symm; rw [decide_eq_false_iff_not]; intro h2; exact h h2.1
theorem strOfNums_get (xs : List Int) (i : Nat) (h : i < (strOfNums xs).size) : (strOfNums xs)[i] = UInt8.ofNat (xs[i]'(by simpa [strOfNums_size] using h)).toNat := by
 simp [strOfNums, ByteArray.getElem_eq_getElem_data]
theorem bytes_ext {s t : ByteArray} (h : s.data.toList = t.data.toList) : s = t := by
 cases s; cases t; congr 1; exact Array.toList_inj.mp h
def EqQ (x y : Int) : Prop := x % 3329 = y % 3329
theorem EqQ.refl (x : Int) : EqQ x x := rfl
theorem EqQ.of {x y : Int} (h : x = y) : EqQ x y := by rw [h]; exact EqQ.refl y
theorem EqQ.symm {x y : Int} (h : EqQ x y) : EqQ y x := Eq.symm h
theorem EqQ.mod (x : Int) : EqQ (x % 3329) x := Int.emod_emod_of_dvd _ (Int.dvd_refl _)
theorem EqQ.neg {x y : Int} (h : EqQ x y) : EqQ (-x) (-y) := by unfold EqQ at *; omega
end Go.Proofs.Ytnckhligcdieaaa.Pure
namespace Go.Proofs.Ytnckhligcdieaaa.Pure
open Go.RowKit Go.Proofs.YtnckhligcdieaaaW.PrintWords Go.Proofs.YtnckhligcdieaaaW.PrintLast Go.Proofs.YtnckhligcdieaaaW.PrintMore Go.Proofs.Ytnckhligcdieaaa.P Go.Proofs.Ytnckhligcdieaaa.Kit
set_option linter.unusedVariables false
set_option linter.unusedSimpArgs false

def W32 (x : Int) : Prop := 0 ≤ x ∧ x < 4294967296
theorem W32.mod (x : Int) : W32 (x % 4294967296) := by unfold W32; omega
theorem W32.xor (a b : Int) : W32 (Go.bits .xor .u32 a b) := by
 show W32 (IntKind.u32.wrap (((BitVec.ofInt 32 a ^^^ BitVec.ofInt 32 b).toNat : Nat) : Int))
 rw [IntKind.wrap_u32']; exact W32.mod _
theorem W32.or (a b : Int) : W32 (Go.bits .or .u32 a b) := by
 show W32 (IntKind.u32.wrap (((BitVec.ofInt 32 a ||| BitVec.ofInt 32 b).toNat : Nat) : Int))
 rw [IntKind.wrap_u32']; exact W32.mod _
theorem wraps32 : ∀ n : Int, 0 ≤ n → n < 2 ^ 32 → IntKind.u32.wrap n = n := fun n h0 h1 => by rw [IntKind.wrap_u32']; omega
/-- Two words joined that share no bit. -/
theorem or_add (i : Nat) (x y : Int) (hx : W32 x) (hi : x % 2 ^ i = 0) (hy : W32 y) (hyi : y < 2 ^ i) : Go.bits .or .u32 x y = x + y :=
 bits_join .u32 32 (by decide) wraps32 i x y hx.1 hi (by have := hx.2; omega) hy.1 hyi (by have := hy.2; omega)
theorem not32 (e : Int) (h : W32 e) : Go.bits .xor .u32 (if IntKind.u32.signed = true then -1 else IntKind.u32.max) e = 4294967295 - e := by
 obtain ⟨n, rfl⟩ := Int.eq_ofNat_of_zero_le h.1
 have hn : n < 4294967296 := by have := h.2; omega
 show IntKind.u32.wrap (((BitVec.ofInt 32 4294967295 ^^^ BitVec.ofInt 32 (n : Int)).toNat : Nat) : Int) = _
 have h1 : (BitVec.ofInt 32 4294967295 ^^^ BitVec.ofInt 32 (n : Int)).toNat = 4294967295 - n := by
  have e1 : BitVec.ofInt 32 4294967295 = BitVec.allOnes 32 := by decide
  rw [e1, BitVec.allOnes_xor, BitVec.toNat_not, BitVec.toNat_ofInt]
  omega
 rw [h1, IntKind.wrap_u32']
 omega
theorem rot_eq (x : Int) (n : Nat) (h1 : 1 ≤ n) (h2 : n ≤ 31) (h : W32 x) : rot x n = x / 2 ^ n + (x % 2 ^ n) * 2 ^ (32 - n) := by
 obtain ⟨A, hA⟩ : ∃ A : Int, A = 2 ^ n := ⟨_, rfl⟩
 obtain ⟨B, hB⟩ : ∃ B : Int, B = 2 ^ (32 - n) := ⟨_, rfl⟩
 have hA0 : 0 < A := by rw [hA]; exact Int.pow_pos (by decide)
 have hB0 : 0 < B := by rw [hB]; exact Int.pow_pos (by decide)
 have hAB : B * A = 4294967296 := by
  rw [hA, hB, ← Int.pow_add, show 32 - n + n = 32 by omega]; rfl
 have hl : shl .u32 x ((32 - n : Nat) : Int) = (x % A) * B := by
  unfold shl
  rw [Int.toNat_natCast, Nat.min_eq_left (by show 32 - n ≤ 32; omega), IntKind.wrap_u32', ← hB, ← hAB, Int.mul_comm x B, Int.mul_emod_mul_of_pos _ _ hB0, Int.mul_comm]
 have hr : shr .u32 x (n : Int) = x / A := by
  unfold shr
  rw [Int.toNat_natCast, Nat.min_eq_left (by show n ≤ 32; omega), ← hA]
 have hm0 := Int.emod_nonneg x (Int.ne_of_gt hA0)
 have hm1 := Int.emod_lt_of_pos x hA0
 have hd0 : 0 ≤ x / A := Int.ediv_nonneg h.1 (Int.le_of_lt hA0)
 have hd1 : x / A < B := Int.ediv_lt_of_lt_mul hA0 (by rw [hAB]; exact h.2)
 have hmb : (x % A) * B < 4294967296 := by
  have h3 : (x % A + 1) * B ≤ A * B := Int.mul_le_mul_of_nonneg_right (by omega) (Int.le_of_lt hB0)
  rw [Int.mul_comm A B, hAB, Int.add_mul, Int.one_mul] at h3
  omega
 have hB1 : B ≤ 4294967296 := by
  have h3 : B * 1 ≤ B * A := Int.mul_le_mul_of_nonneg_left (by omega) (Int.le_of_lt hB0)
  rw [hAB, Int.mul_one] at h3; exact h3
 unfold rot
 rw [hl, hr, ← hA, ← hB, or_add (32 - n) _ _ ⟨Int.mul_nonneg hm0 (Int.le_of_lt hB0), hmb⟩ (by rw [← hB]; exact Int.mul_emod_left _ _) ⟨hd0, by omega⟩ (by rw [← hB]; exact hd1), Int.add_comm]
theorem rot_w (x : Int) (n : Nat) : W32 (rot x n) := W32.or _ _
theorem l05Right_eq (x : Int) (n : Nat) (a b : Int) (ha : a = 2 ^ n) (hb : b = 2 ^ (32 - n)) (h1 : 1 ≤ n) (h2 : n ≤ 31) (h : W32 x) : spec_l05Right.f x a b = some (rot x n) := by
 have hA0 : 0 < a := by rw [ha]; exact Int.pow_pos (by decide)
 have hr := rot_eq x n h1 h2 h
 have hw := rot_w x n
 rw [← ha, ← hb] at hr
 have hw1 := hw.1
 have hw2 := hw.2
 have hd0 : 0 ≤ x / a := Int.ediv_nonneg h.1 (Int.le_of_lt hA0)
 have hb0 : 0 ≤ b := by rw [hb]; exact Int.le_of_lt (Int.pow_pos (by decide))
 have hm0 : 0 ≤ x % a * b := Int.mul_nonneg (Int.emod_nonneg x (Int.ne_of_gt hA0)) hb0
 unfold spec_l05Right.f
 rw [if_neg (Int.ne_of_gt hA0), Int.tdiv_eq_ediv_of_nonneg h.1, Int.tmod_eq_emod_of_nonneg h.1]
 rw [hr] at hw1 hw2 ⊢
 congr 1
 rw [Int.emod_eq_of_lt hd0 (by omega), Int.emod_eq_of_lt hm0 (by omega), Int.emod_eq_of_lt hw1 hw2]
theorem l05S_last (x : Int) (n m : Nat) (a b c : Int) (ha : a = 2 ^ n) (hb : b = 2 ^ m) (hc : c ≠ 0) (ha2 : (Int.tdiv 2147483648 a % 4294967296) * 2 % 4294967296 = 2 ^ (32 - n)) (hb2 : (Int.tdiv 2147483648 b % 4294967296) * 2 % 4294967296 = 2 ^ (32 - m)) (hn : 1 ≤ n ∧ n ≤ 31) (hm : 1 ≤ m ∧ m ≤ 31) (hcx : 0 < c) (h : W32 x) :
  spec_l05S.f x a b c true = some (Go.bits .xor .u32 (Go.bits .xor .u32 (rot x n) (rot x m)) (x / c)) := by
 have ha0 : a ≠ 0 := by rw [ha]; exact Int.ne_of_gt (Int.pow_pos (by decide))
 have hb0 : b ≠ 0 := by rw [hb]; exact Int.ne_of_gt (Int.pow_pos (by decide))
 unfold spec_l05S.f
 rw [if_neg ha0, l05Right_eq x n a _ ha ha2 hn.1 hn.2 h]
 simp only [Option.bind_some]
 rw [if_neg hb0, l05Right_eq x m b _ hb hb2 hm.1 hm.2 h]
 simp only [Option.bind_some]
 rw [if_neg hc, if_pos trivial, Int.tdiv_eq_ediv_of_nonneg h.1]
 have h1 : 0 ≤ x / c := Int.ediv_nonneg h.1 (Int.le_of_lt hcx)
 have h2 : x / c ≤ x := Int.ediv_le_self _ h.1
 rw [Int.emod_eq_of_lt h1 (by have := h.2; omega)]
theorem l05S_three (x : Int) (n m q : Nat) (a b c : Int) (ha : a = 2 ^ n) (hb : b = 2 ^ m) (hc : c = 2 ^ q) (ha2 : (Int.tdiv 2147483648 a % 4294967296) * 2 % 4294967296 = 2 ^ (32 - n)) (hb2 : (Int.tdiv 2147483648 b % 4294967296) * 2 % 4294967296 = 2 ^ (32 - m)) (hc2 : (Int.tdiv 2147483648 c % 4294967296) * 2 % 4294967296 = 2 ^ (32 - q)) (hn : 1 ≤ n ∧ n ≤ 31) (hm : 1 ≤ m ∧ m ≤ 31) (hq : 1 ≤ q ∧ q ≤ 31) (h : W32 x) :
  spec_l05S.f x a b c false = some (Go.bits .xor .u32 (Go.bits .xor .u32 (rot x n) (rot x m)) (rot x q)) := by
 have ha0 : a ≠ 0 := by rw [ha]; exact Int.ne_of_gt (Int.pow_pos (by decide))
 have hb0 : b ≠ 0 := by rw [hb]; exact Int.ne_of_gt (Int.pow_pos (by decide))
 have hc0 : c ≠ 0 := by rw [hc]; exact Int.ne_of_gt (Int.pow_pos (by decide))
 unfold spec_l05S.f
 rw [if_neg ha0, l05Right_eq x n a _ ha ha2 hn.1 hn.2 h]
 simp only [Option.bind_some]
 rw [if_neg hb0, l05Right_eq x m b _ hb hb2 hm.1 hm.2 h]
 simp only [Option.bind_some]
 rw [if_neg hc0, if_neg (by decide), l05Right_eq x q c _ hc hc2 hq.1 hq.2 h]
 simp only [Option.bind_some]
theorem S_w1 (x : Int) (h : W32 x) : spec_l05S.f x 131072 524288 1024 true = some (Go.bits .xor .u32 (Go.bits .xor .u32 (rot x 17) (rot x 19)) (x / 1024)) :=
 l05S_last x 17 19 _ _ _ rfl rfl (by decide) rfl rfl (by decide) (by decide) (by decide) h
theorem S_w0 (x : Int) (h : W32 x) : spec_l05S.f x 128 262144 8 true = some (Go.bits .xor .u32 (Go.bits .xor .u32 (rot x 7) (rot x 18)) (x / 8)) :=
 l05S_last x 7 18 _ _ _ rfl rfl (by decide) rfl rfl (by decide) (by decide) (by decide) h
theorem S_e (x : Int) (h : W32 x) : spec_l05S.f x 64 2048 33554432 false = some (Go.bits .xor .u32 (Go.bits .xor .u32 (rot x 6) (rot x 11)) (rot x 25)) :=
 l05S_three x 6 11 25 _ _ _ rfl rfl rfl rfl rfl rfl (by decide) (by decide) (by decide) h
theorem S_a (x : Int) (h : W32 x) : spec_l05S.f x 4 8192 4194304 false = some (Go.bits .xor .u32 (Go.bits .xor .u32 (rot x 2) (rot x 13)) (rot x 22)) :=
 l05S_three x 2 13 22 _ _ _ rfl rfl rfl rfl rfl rfl (by decide) (by decide) (by decide) h

/-! the words of a block -/
def word (s : ByteArray) (i : Nat) : Int := bt s ((4 * i : Nat) : Int) * 16777216 + bt s ((4 * i + 1 : Nat) : Int) * 65536 + bt s ((4 * i + 2 : Nat) : Int) * 256 + bt s ((4 * i + 3 : Nat) : Int)
theorem word_w (s : ByteArray) (i : Nat) : W32 (word s i) := by
 have h0 := bt_range s ((4 * i : Nat) : Int)
 have h1 := bt_range s ((4 * i + 1 : Nat) : Int)
 have h2 := bt_range s ((4 * i + 2 : Nat) : Int)
 have h3 := bt_range s ((4 * i + 3 : Nat) : Int)
 unfold word W32
 omega
def wordL (s : ByteArray) (n : Nat) : List Int := (List.range n).map (word s)
theorem wordL_len (s : ByteArray) (n : Nat) : (wordL s n).length = n := by simp [wordL]
theorem wordL_succ (s : ByteArray) (n : Nat) : wordL s (n + 1) = wordL s n ++ [word s n] := by simp [wordL, List.range_succ]
theorem wordL_w (s : ByteArray) (n : Nat) : ∀ x ∈ wordL s n, W32 x := by
 intro x hx
 obtain ⟨i, _, rfl⟩ := List.mem_map.mp hx
 exact word_w s i
theorem spec_l05Word_eq (s : ByteArray) (i : Nat) (h : 4 * i + 4 ≤ s.size) (hs : s.size ≤ 4611686018427387904) : spec_l05Word.f s ((4 * i : Nat) : Int) = some (word s i) := by
 have e1 : wrap64 (((4 * i : Nat) : Int) + 1) = ((4 * i + 1 : Nat) : Int) := by rw [w64 (by omega) (by omega)]; rfl
 have e2 : wrap64 (((4 * i : Nat) : Int) + 2) = ((4 * i + 2 : Nat) : Int) := by rw [w64 (by omega) (by omega)]; rfl
 have e3 : wrap64 (((4 * i : Nat) : Int) + 3) = ((4 * i + 3 : Nat) : Int) := by rw [w64 (by omega) (by omega)]; rfl
 have h0 := bt_range s ((4 * i : Nat) : Int)
 have h1 := bt_range s ((4 * i + 1 : Nat) : Int)
 have h2 := bt_range s ((4 * i + 2 : Nat) : Int)
 have h3 := bt_range s ((4 * i + 3 : Nat) : Int)
 unfold spec_l05Word.f
 rw [e1, e2, e3, if_pos (by omega), if_pos (by omega), if_pos (by omega), if_pos (by omega), if_pos (by omega), if_pos (by omega), if_pos (by omega), if_pos (by omega)]
 unfold word
 congr 1
 generalize bt s ((4 * i : Nat) : Int) = b0 at *
 generalize bt s ((4 * i + 1 : Nat) : Int) = b1 at *
 generalize bt s ((4 * i + 2 : Nat) : Int) = b2 at *
 generalize bt s ((4 * i + 3 : Nat) : Int) = b3 at *
 clear e1 e2 e3
 omega
theorem spec_l05Words_ev (s : ByteArray) (n : Nat) (h : s.size = 4 * n) (hn : n ≤ 1000000) : Ev (fun k => spec_l05Words.f k s) (wordL s n) := by
 refine Ev.up (g := fun i k => spec_l05Words.l0 k s (wordL s i) ((4 * i : Nat) : Int)) n ?_ ?_ 0 (Nat.zero_le _)
 ·intro i hi hh
  refine Ev.step (fun k => ?_) hh
  simp only [spec_l05Words.l0]
  have e4 : wrap64 (((4 * i : Nat) : Int) + 4) = ((4 * (i + 1) : Nat) : Int) := by rw [w64 (by omega) (by omega)]; omega
  rw [e4, if_pos (by omega), spec_l05Word_eq s i (by omega) (by omega)]
  simp only [Option.bind_some]
  rw [if_pos (by rw [wordL_len]; omega), wordL_succ]
 ·refine Ev.step (f := fun _ => some (wordL s n)) (fun k => ?_) (Ev.now _)
  simp only [spec_l05Words.l0]
  have e4 : wrap64 (((4 * n : Nat) : Int) + 4) = ((4 * (n + 1) : Nat) : Int) := by rw [w64 (by omega) (by omega)]; omega
  rw [e4, if_neg (by omega)]
end Go.Proofs.Ytnckhligcdieaaa.Pure
namespace Go.Proofs.Ytnckhligcdieaaa.Pure
open Go.RowKit Go.Proofs.YtnckhligcdieaaaW.PrintWords Go.Proofs.YtnckhligcdieaaaW.PrintLast Go.Proofs.YtnckhligcdieaaaW.PrintMore Go.Proofs.Ytnckhligcdieaaa.P Go.Proofs.Ytnckhligcdieaaa.Kit
set_option linter.unusedVariables false
set_option linter.unusedSimpArgs false

/-- The words while word i is being made. -/
def partW (s : ByteArray) (i : Nat) (x : Int) : List Int := wordL s i ++ x :: List.replicate (63 - i) 0
theorem partW_rd (s : ByteArray) (i : Nat) (x : Int) : rd (partW s i x) (i : Int) = x := by
 rw [rd_nat, partW, List.getD_eq_getElem?_getD, List.getElem?_append_right (by rw [wordL_len]; omega), wordL_len]
 simp
theorem partW_set (s : ByteArray) (i : Nat) (x y : Int) : (partW s i x).set i y = partW s i y := by
 unfold partW
 rw [List.set_append_right _ _ (by rw [wordL_len]; omega), wordL_len]
 simp
theorem wordsA_step (s : ByteArray) (m i : Nat) (x y : Int) (hm : m / 4 = i) (h : wordsA s m = partW s i x) (hx : 0 ≤ x) (hx2 : x < 16777216) (hy : y = x * 256 + bt s (m : Int)) : wordsA s (m + 1) = partW s i y := by
 have hb := bt_range s (m : Int)
 simp only [wordsA]
 rw [hm, h, partW_rd, partW_set, or_add 8 _ _ (W32.mod _) (by omega) (W32.mod _) (by omega), hy]
 congr 1
 omega
theorem wordsA_four (s : ByteArray) (i : Nat) (hi : i < 16) (h : wordsA s (4 * i) = partW s i 0) : wordsA s (4 * (i + 1)) = wordL s (i + 1) ++ List.replicate (63 - i) 0 := by
 have b0 := bt_range s ((4 * i : Nat) : Int)
 have b1 := bt_range s ((4 * i + 1 : Nat) : Int)
 have b2 := bt_range s ((4 * i + 2 : Nat) : Int)
 have b3 := bt_range s ((4 * i + 3 : Nat) : Int)
 have h1 := wordsA_step s (4 * i) i 0 (bt s ((4 * i : Nat) : Int)) (by omega) h (by omega) (by omega) (by omega)
 have h2 := wordsA_step s (4 * i + 1) i _ (bt s ((4 * i : Nat) : Int) * 256 + bt s ((4 * i + 1 : Nat) : Int)) (by omega) h1 (by omega) (by omega) rfl
 have h3 := wordsA_step s (4 * i + 2) i _ ((bt s ((4 * i : Nat) : Int) * 256 + bt s ((4 * i + 1 : Nat) : Int)) * 256 + bt s ((4 * i + 2 : Nat) : Int)) (by omega) h2 (by omega) (by omega) rfl
 have h4 := wordsA_step s (4 * i + 3) i _ (word s i) (by omega) h3 (by omega) (by omega) (by unfold word; omega)
 rw [show 4 * (i + 1) = 4 * i + 3 + 1 by omega, h4, partW, wordL_succ]
 simp
theorem wordsA_all (s : ByteArray) : ∀ i, i ≤ 16 → wordsA s (4 * i) = wordL s i ++ List.replicate (64 - i) 0
 | 0, _ => rfl
 | i + 1, h => by
  have ih := wordsA_all s i (by omega)
  rw [wordsA_four s i (by omega) (by rw [ih, partW, show 64 - i = (63 - i) + 1 by omega, List.replicate_succ]), show 64 - (i + 1) = 63 - i by omega]
theorem wordNext_w (l : List Int) (t : Nat) : W32 (wordNext l t) := W32.mod _
theorem take_set_snoc (l : List Int) (t : Nat) (v : Int) (h : t < l.length) : (l.set t v).take (t + 1) = l.take t ++ [v] := by
 rw [List.take_add_one, List.take_set_of_le (Nat.le_refl _)]
 simp [h]
theorem wordsB_snoc (s : ByteArray) (j : Nat) (h : j < 48) : (wordsB s (j + 1)).take (16 + (j + 1)) = (wordsB s j).take (16 + j) ++ [wordNext (wordsB s j) (16 + j)] :=
 take_set_snoc _ (16 + j) _ (by rw [wordsB_len]; omega)
theorem wordsB_take (s : ByteArray) : ∀ j, j ≤ 48 → ∀ x ∈ (wordsB s j).take (16 + j), W32 x
 | 0, _ => by
  intro x hx
  have := wordsA_all s 16 (Nat.le_refl _)
  simp only [wordsB] at hx
  rw [show 64 = 4 * 16 from rfl, this, List.take_append_of_le_length (by rw [wordL_len]; omega)] at hx
  exact wordL_w s 16 x (List.mem_of_mem_take hx)
 | j + 1, h => by
  intro x hx
  rw [wordsB_snoc s j (by omega), List.mem_append] at hx
  rcases hx with hx | hx
  ·exact wordsB_take s j (by omega) x hx
  ·simp at hx; subst hx; exact wordNext_w _ _
theorem rd_take (l : List Int) (t i : Nat) (h : i < t) : rd (l.take t) (i : Int) = rd l (i : Int) := by
 rw [rd_nat, rd_nat]
 simp [List.getElem?_take, h]
theorem wB_w (s : ByteArray) (j i : Nat) (hj : j ≤ 48) (hi : i < 16 + j) : W32 (rd (wordsB s j) (i : Int)) := by
 have hl := wordsB_len s j
 rw [← rd_take _ (16 + j) i hi, rd_get _ _ (by rw [List.length_take, hl]; omega)]
 exact wordsB_take s j hj _ (List.getElem_mem _)
theorem l0_ev (s : ByteArray) (st ks : List Int) (r : List Int) (hst : st.length = 8) (h : Ev (fun k => spec_l05Round.l1 k st ks (impl_wordsOf.v s) st 0) r) : Ev (fun k => spec_l05Round.l0 k st ks (wordL s 16) 16) r := by
 have h0 : wordL s 16 = (wordsB s 0).take 16 := by
  simp only [wordsB]
  rw [show 64 = 4 * 16 from rfl, wordsA_all s 16 (Nat.le_refl _), List.take_append_of_le_length (by rw [wordL_len]; omega), List.take_of_length_le (by rw [wordL_len]; omega)]
 rw [h0]
 refine Ev.up (g := fun j k => spec_l05Round.l0 k st ks ((wordsB s j).take (16 + j)) ((16 + j : Nat) : Int)) 48 ?_ ?_ 0 (Nat.zero_le _)
 ·intro j hj hh
  refine Ev.step (fun k => ?_) hh
  have hl : ((wordsB s j).take (16 + j)).length = 16 + j := by rw [List.length_take, wordsB_len]; omega
  have e1 : wrap64 (((16 + j : Nat) : Int) - 2) = ((14 + j : Nat) : Int) := by rw [w64 (by omega) (by omega)]; omega
  have e2 : wrap64 (((16 + j : Nat) : Int) - 7) = ((9 + j : Nat) : Int) := by rw [w64 (by omega) (by omega)]; omega
  have e3 : wrap64 (((16 + j : Nat) : Int) - 15) = ((1 + j : Nat) : Int) := by rw [w64 (by omega) (by omega)]; omega
  have e4 : wrap64 (((16 + j : Nat) : Int) - 16) = ((j : Nat) : Int) := by rw [w64 (by omega) (by omega)]; omega
  have e5 : wrap64 (((16 + j : Nat) : Int) + 1) = ((16 + (j + 1) : Nat) : Int) := by rw [w64 (by omega) (by omega)]; omega
  simp only [spec_l05Round.l0]
  rw [e1, e2, e3, e4, e5, hl, rd_take _ _ _ (by omega), rd_take _ _ _ (by omega), rd_take _ _ _ (by omega), rd_take _ _ _ (by omega)]
  rw [if_pos (by omega), if_pos (by omega), if_pos (by omega), S_w1 _ (wB_w s j _ (by omega) (by omega))]
  simp only [Option.bind_some]
  rw [if_pos (by omega), if_pos (by omega), if_pos (by omega), if_pos (by omega), S_w0 _ (wB_w s j _ (by omega) (by omega))]
  simp only [Option.bind_some]
  rw [if_pos (by omega), if_pos (by omega), if_pos (by omega), wordsB_snoc s j hj]
  congr 2
  unfold wordNext
  rw [show 16 + j - 2 = 14 + j by omega, show 16 + j - 7 = 9 + j by omega, show 16 + j - 15 = 1 + j by omega, show 16 + j - 16 = j by omega]
  simp only [List.append_cancel_left_eq, List.cons.injEq, and_true]
  omega
 ·refine Ev.step (fun k => ?_) h
  have hl := wordsB_len s 48
  simp only [spec_l05Round.l0, Option.bind_some]
  rw [if_neg (by omega), if_pos (by simp; omega), List.take_of_length_le (by omega)]
  rfl
theorem wl0 : wrap64 0 = 0 := w64 (by decide) (by decide)
theorem wl1 : wrap64 1 = 1 := w64 (by decide) (by decide)
theorem wl2 : wrap64 2 = 2 := w64 (by decide) (by decide)
theorem wl3 : wrap64 3 = 3 := w64 (by decide) (by decide)
theorem wl4 : wrap64 4 = 4 := w64 (by decide) (by decide)
theorem wl5 : wrap64 5 = 5 := w64 (by decide) (by decide)
theorem wl6 : wrap64 6 = 6 := w64 (by decide) (by decide)
theorem wl7 : wrap64 7 = 7 := w64 (by decide) (by decide)
theorem wl8 : wrap64 8 = 8 := w64 (by decide) (by decide)
theorem l2_seven (k : Nat) (x0 x1 x7 : List Int) (a b c d e f g h t u v : Int) : spec_l05Round.l2 (k + 1 + 1 + 1 + 1 + 1 + 1 + 1 + 1) x0 x1 x7 [a, b, c, d, e, f, g, h] t u v 7 = spec_l05Round.l1 k x0 x1 x7 [(u + v) % 4294967296, a, b, c, (d + u) % 4294967296, e, f, g] (wrap64 (t + 1)) := by
 simp [spec_l05Round.l2, wl0, wl1, wl2, wl3, wl4, wl5, wl6, wl7, wl8, rd]
theorem l3_eight (k : Nat) (a b c d e f g h a' b' c' d' e' f' g' h' : Int) : spec_l05Round.l3 (k + 1 + 1 + 1 + 1 + 1 + 1 + 1 + 1 + 1) [a, b, c, d, e, f, g, h] [a', b', c', d', e', f', g', h'] [] 0 = some [(a + a') % 4294967296, (b + b') % 4294967296, (c + c') % 4294967296, (d + d') % 4294967296, (e + e') % 4294967296, (f + f') % 4294967296, (g + g') % 4294967296, (h + h') % 4294967296] := by
 simp [spec_l05Round.l3, wl0, wl1, wl2, wl3, wl4, wl5, wl6, wl7, wl8, rd]
theorem sums_eight (a b c d e f g h a' b' c' d' e' f' g' h' : Int) : sums [a, b, c, d, e, f, g, h] [a', b', c', d', e', f', g', h'] 8 = [(a' + a) % 4294967296, (b' + b) % 4294967296, (c' + c) % 4294967296, (d' + d) % 4294967296, (e' + e) % 4294967296, (f' + f) % 4294967296, (g' + g) % 4294967296, (h' + h) % 4294967296] := rfl
/-- Eight words. -/
def Eight (l : List Int) : Prop := l.length = 8 ∧ ∀ x ∈ l, W32 x
theorem Eight.cases {l : List Int} (h : Eight l) : ∃ a b c d e f g i, l = [a, b, c, d, e, f, g, i] ∧ W32 a ∧ W32 b ∧ W32 c ∧ W32 d ∧ W32 e ∧ W32 f ∧ W32 g ∧ W32 i := by
 obtain ⟨hl, hw⟩ := h
 match l, hl with
 | [a, b, c, d, e, f, g, i], _ => exact ⟨a, b, c, d, e, f, g, i, rfl, hw _ (by simp), hw _ (by simp), hw _ (by simp), hw _ (by simp), hw _ (by simp), hw _ (by simp), hw _ (by simp), hw _ (by simp)⟩
theorem Eight.mk' {a b c d e f g i : Int} (h1 : W32 a) (h2 : W32 b) (h3 : W32 c) (h4 : W32 d) (h5 : W32 e) (h6 : W32 f) (h7 : W32 g) (h8 : W32 i) : Eight [a, b, c, d, e, f, g, i] := by
 refine ⟨rfl, fun x hx => ?_⟩
 simp only [List.mem_cons, List.not_mem_nil, or_false] at hx
 rcases hx with rfl | rfl | rfl | rfl | rfl | rfl | rfl | rfl <;> assumption
theorem rnd_eight {k w : Int} {l : List Int} (h : Eight l) : Eight (rnd k w l) := by
 obtain ⟨a, b, c, d, e, f, g, i, rfl, h1, h2, h3, h4, h5, h6, h7, h8⟩ := h.cases
 exact Eight.mk' (W32.mod _) h1 h2 h3 (W32.mod _) h5 h6 h7
theorem rounds_eight {ws st : List Int} (h : Eight st) : ∀ t, Eight (rounds ws st t)
 | 0 => h
 | t + 1 => rnd_eight (rounds_eight h t)
theorem sums_eq {st v : List Int} (hst : Eight st) (hv : Eight v) : ∃ k0, ∀ k, k0 ≤ k → spec_l05Round.l3 k st v [] 0 = some (sums st v 8) := by
 obtain ⟨a, b, c, d, e, f, g, i, rfl, _⟩ := hv.cases
 obtain ⟨a', b', c', d', e', f', g', i', rfl, _⟩ := hst.cases
 refine ⟨9, fun k hk => ?_⟩
 obtain ⟨k', rfl⟩ : ∃ k', k = k' + 1 + 1 + 1 + 1 + 1 + 1 + 1 + 1 + 1 := ⟨k - 9, by omega⟩
 rw [l3_eight, sums_eight]
 simp only [Int.add_comm]
theorem l1_exit (ws : List Int) {st v : List Int} (hst : Eight st) (hv : Eight v) : ∃ k0, ∀ k, k0 ≤ k → spec_l05Round.l1 k st roundKeys ws v ((64 : Nat) : Int) = some (sums st v 8) := by
 obtain ⟨k0, h⟩ := sums_eq hst hv
 refine ⟨k0 + 1, fun k hk => ?_⟩
 obtain ⟨k', rfl⟩ : ∃ k', k = k' + 1 := ⟨k - 1, by omega⟩
 simp only [spec_l05Round.l1]
 rw [if_neg (by decide)]
 exact h k' (by omega)
theorem l1_R (ws : List Int) (st : List Int) (hst : Eight st) (hwl : ws.length = 64) (R : Nat → List Int) (h0 : R 0 = st) (hs : ∀ t, R (t + 1) = rnd (rd roundKeys (t : Int)) (rd ws (t : Int)) (R t)) (he : ∀ t, Eight (R t)) : Ev (fun k => spec_l05Round.l1 k st roundKeys ws st 0) (sums st (R 64) 8) := by
 have hkl : roundKeys.length = 64 := rfl
 have key : Ev (fun k => spec_l05Round.l1 k st roundKeys ws (R 0) ((0 : Nat) : Int)) (sums st (R 64) 8) := by
  refine Ev.up (g := fun t k => spec_l05Round.l1 k st roundKeys ws (R t) (t : Int)) 64 ?_ ?_ 0 (Nat.zero_le _)
  ·intro t ht hh
   obtain ⟨a, b, c, d, e, f, g, i, hv, h1, h2, h3, h4, h5, h6, h7, h8⟩ := (he t).cases
   obtain ⟨K, hK⟩ := hh
   refine ⟨K + 9, fun k hk => ?_⟩
   obtain ⟨k', rfl⟩ : ∃ k', k = k' + 1 + 1 + 1 + 1 + 1 + 1 + 1 + 1 + 1 := ⟨k - 9, by omega⟩
   have hgo := hK k' (by omega)
   simp only [spec_l05Round.l1]
   rw [hv]
   rw [if_pos (by omega), if_pos (by simp), if_pos (by simp), if_pos (by simp), if_pos (by simp), show rd [a, b, c, d, e, f, g, i] 4 = e from rfl, show rd [a, b, c, d, e, f, g, i] 0 = a from rfl, show rd [a, b, c, d, e, f, g, i] 5 = f from rfl, show rd [a, b, c, d, e, f, g, i] 6 = g from rfl, show rd [a, b, c, d, e, f, g, i] 7 = i from rfl, show rd [a, b, c, d, e, f, g, i] 1 = b from rfl, show rd [a, b, c, d, e, f, g, i] 2 = c from rfl, S_e e h5]
   simp only [Option.bind_some]
   rw [if_pos (by omega), if_pos (by omega), if_pos (by omega), if_pos (by simp), if_pos (by simp), if_pos (by simp), S_a a h1]
   simp only [Option.bind_some]
   rw [l2_seven, w64s t (by omega)]
   rw [← hgo, hs t, hv]
   simp only [rnd]
   rw [not32 e h5, show (4294967295 - e) % 4294967296 = 4294967295 - e by have := h5.1; have := h5.2; omega]
   congr 1
   simp only [List.cons.injEq, and_true, true_and]
   constructor <;> omega
  ·exact l1_exit ws hst (he 64)
 rw [h0] at key
 exact key
theorem oneBlock_R (st : List Int) (s : ByteArray) (R : Nat → List Int) (hR : R = rounds (impl_wordsOf.v s) st) : impl_oneBlock.v st s = sums st (R 64) 8 := by
 rw [hR]; rfl
theorem l1_ev (s : ByteArray) (st : List Int) (hst : Eight st) : Ev (fun k => spec_l05Round.l1 k st roundKeys (impl_wordsOf.v s) st 0) (impl_oneBlock.v st s) := by
 obtain ⟨R, hR⟩ : ∃ R, R = rounds (impl_wordsOf.v s) st := ⟨_, rfl⟩
 rw [oneBlock_R st s R hR]
 exact l1_R _ st hst (wordsB_len s 48) R (by rw [hR]; rfl) (fun t => by rw [hR]; rfl) (fun t => by rw [hR]; exact rounds_eight hst t)
/-- The reference's round is the program's. -/
theorem spec_l05Round_ev (s : ByteArray) (st : List Int) (hst : Eight st) (hs : s.size = 64) : Ev (fun k => spec_l05Round.f k st roundKeys s) (impl_oneBlock.v st s) := by
 unfold spec_l05Round.f
 exact Ev.bind (spec_l05Words_ev s 16 (by omega) (by decide)) (l0_ev s st roundKeys _ hst.1 (l1_ev s st hst))
theorem sums_8 {st v : List Int} (hst : Eight st) (hv : Eight v) : Eight (sums st v 8) := by
 obtain ⟨a, b, c, d, e, f, g, i, rfl, _⟩ := hv.cases
 obtain ⟨a', b', c', d', e', f', g', i', rfl, _⟩ := hst.cases
 rw [sums_eight]
 exact Eight.mk' (W32.mod _) (W32.mod _) (W32.mod _) (W32.mod _) (W32.mod _) (W32.mod _) (W32.mod _) (W32.mod _)
theorem oneBlock_eight {st : List Int} {s : ByteArray} (h : Eight st) : Eight (impl_oneBlock.v st s) := sums_8 h (rounds_eight h 64)
end Go.Proofs.Ytnckhligcdieaaa.Pure
namespace Go.Proofs.Ytnckhligcdieaaa.Pure
open Go.RowKit Go.Proofs.YtnckhligcdieaaaW.PrintWords Go.Proofs.YtnckhligcdieaaaW.PrintLast Go.Proofs.YtnckhligcdieaaaW.PrintMore Go.Proofs.Ytnckhligcdieaaa.P Go.Proofs.Ytnckhligcdieaaa.Kit
set_option linter.unusedVariables false
set_option linter.unusedSimpArgs false

theorem strOf_app (a b : List Int) : strOfNums a ++ strOfNums b = strOfNums (a ++ b) := by
 apply bytes_ext
 simp [strOfNums, ByteArray.data_append]
theorem strOf_extract (xs : List Int) (a b : Nat) : (strOfNums xs).extract a b = strOfNums ((xs.drop a).take (b - a)) := by
 apply bytes_ext
 rw [ByteArray.data_extract]
 simp [strOfNums, List.map_drop, List.map_take]
theorem empty_app (s : ByteArray) : (⟨#[]⟩ : ByteArray) ++ s = s := by
 apply bytes_ext
 simp [ByteArray.data_append]
theorem bt_strOf (xs : List Int) (j : Nat) (hj : j < xs.length) (h : 0 ≤ xs[j] ∧ xs[j] ≤ 255) : bt (strOfNums xs) (j : Int) = xs[j] := by
 have hs : j < (strOfNums xs).size := by rw [strOfNums_size]; exact hj
 rw [← bt_at (strOfNums xs) (j : Int) (by simpa using hs)]
 simp only [Int.toNat_natCast]
 rw [strOfNums_get xs j hs, UInt8.toNat_ofNat']
 omega

def fourL (x : Int) : List Int := [(x / 16777216) % 256, (x / 65536) % 256, (x / 256) % 256, x % 256]
def bytesW (l : List Int) : List Int := l.flatMap fourL
theorem bytesW_len (l : List Int) : (bytesW l).length = 4 * l.length := by
 induction l with
 | nil => rfl
 | cons x l ih => simp only [bytesW, List.flatMap_cons, List.length_append, List.length_cons] at ih ⊢; rw [ih]; simp [fourL]; omega
theorem bytesW_succ (l : List Int) (i : Nat) (h : i < l.length) : bytesW (l.take (i + 1)) = bytesW (l.take i) ++ fourL l[i] := by
 show (l.take (i + 1)).flatMap fourL = (l.take i).flatMap fourL ++ fourL l[i]
 rw [← take_snoc l i h, List.flatMap_append, List.flatMap_singleton]
theorem spec_l05Bytes_ev (l : List Int) (hl : l.length ≤ 1000000) (hw : ∀ x ∈ l, W32 x) : Ev (fun k => spec_l05Bytes.f k l) (strOfNums (bytesW l)) := by
 refine Ev.up (g := fun i k => spec_l05Bytes.l0 k l (bytesW (l.take i)) (i : Int)) l.length ?_ ?_ 0 (Nat.zero_le _)
 ·intro i hi hh
  refine Ev.step (fun k => ?_) hh
  have hx := hw l[i] (List.getElem_mem hi)
  simp only [spec_l05Bytes.l0, Option.bind_some]
  rw [if_pos (by omega), if_pos (by omega), if_pos (by rw [bytesW_len, List.length_take]; simp; omega), w64s i (by omega), bytesW_succ l i hi, rd_get l i hi]
  congr 2
  unfold fourL
  rw [Int.tdiv_eq_ediv_of_nonneg hx.1, Int.tdiv_eq_ediv_of_nonneg hx.1, Int.tdiv_eq_ediv_of_nonneg hx.1, Int.tmod_eq_emod_of_nonneg hx.1]
  have h1 := hx.1
  have h2 := hx.2
  generalize l[i] = x at h1 h2 ⊢
  simp only [List.cons.injEq, and_true]
  refine ⟨by omega, by omega, by omega, by omega⟩
 ·refine Ev.step (f := fun _ => some (strOfNums (bytesW l))) (fun k => ?_) (Ev.now _)
  simp only [spec_l05Bytes.l0]
  rw [if_neg (by omega), List.take_length]
theorem fourL_range (x : Int) : ∀ y ∈ fourL x, 0 ≤ y ∧ y ≤ 255 := by
 intro y hy
 simp only [fourL, List.mem_cons, List.not_mem_nil, or_false] at hy
 rcases hy with rfl | rfl | rfl | rfl <;> omega
theorem bytesW_range (l : List Int) : ∀ y ∈ bytesW l, 0 ≤ y ∧ y ≤ 255 := by
 intro y hy
 obtain ⟨x, _, hx⟩ := List.mem_flatMap.mp hy
 exact fourL_range x y hx
theorem wordL_bytes {l : List Int} (h : Eight l) : wordL (strOfNums (bytesW l)) 8 = l := by
 obtain ⟨a, b, c, d, e, f, g, i, rfl, h1, h2, h3, h4, h5, h6, h7, h8⟩ := h.cases
 have hb : ∀ (j : Nat) (hj : j < (bytesW [a, b, c, d, e, f, g, i]).length), bt (strOfNums (bytesW [a, b, c, d, e, f, g, i])) (j : Int) = (bytesW [a, b, c, d, e, f, g, i])[j] :=
  fun j hj => bt_strOf _ j hj (bytesW_range _ _ (List.getElem_mem hj))
 have hw : ∀ (t : Nat) (x : Int), W32 x → (∀ q, q < 4 → bt (strOfNums (bytesW [a, b, c, d, e, f, g, i])) ((4 * t + q : Nat) : Int) = (fourL x).getD q 0) → word (strOfNums (bytesW [a, b, c, d, e, f, g, i])) t = x := by
  intro t x hx hq
  unfold word
  have q0 := hq 0 (by decide)
  have q1 := hq 1 (by decide)
  have q2 := hq 2 (by decide)
  have q3 := hq 3 (by decide)
  simp only [Nat.add_zero] at q0
  rw [q0, q1, q2, q3]
  simp only [fourL, List.getD_cons_zero, List.getD_cons_succ]
  have := hx.1
  have := hx.2
  omega
 have h4' : ∀ (t q : Nat) (x : Int), (bytesW [a, b, c, d, e, f, g, i])[4 * t + q]? = some ((fourL x).getD q 0) → bt (strOfNums (bytesW [a, b, c, d, e, f, g, i])) ((4 * t + q : Nat) : Int) = (fourL x).getD q 0 := by
  intro t q x hx
  obtain ⟨hlt, he⟩ := List.getElem?_eq_some_iff.mp hx
  rw [hb _ hlt, he]
 have all4 : ∀ {p : Nat → Prop}, p 0 → p 1 → p 2 → p 3 → ∀ q, q < 4 → p q := by
  intro p p0 p1 p2 p3 q hq
  match q, hq with
  | 0, _ => exact p0
  | 1, _ => exact p1
  | 2, _ => exact p2
  | 3, _ => exact p3
 show [word _ 0, word _ 1, word _ 2, word _ 3, word _ 4, word _ 5, word _ 6, word _ 7] = _
 rw [hw 0 a h1 (all4 (h4' 0 0 a rfl) (h4' 0 1 a rfl) (h4' 0 2 a rfl) (h4' 0 3 a rfl)), hw 1 b h2 (all4 (h4' 1 0 b rfl) (h4' 1 1 b rfl) (h4' 1 2 b rfl) (h4' 1 3 b rfl)), hw 2 c h3 (all4 (h4' 2 0 c rfl) (h4' 2 1 c rfl) (h4' 2 2 c rfl) (h4' 2 3 c rfl)), hw 3 d h4 (all4 (h4' 3 0 d rfl) (h4' 3 1 d rfl) (h4' 3 2 d rfl) (h4' 3 3 d rfl)), hw 4 e h5 (all4 (h4' 4 0 e rfl) (h4' 4 1 e rfl) (h4' 4 2 e rfl) (h4' 4 3 e rfl)), hw 5 f h6 (all4 (h4' 5 0 f rfl) (h4' 5 1 f rfl) (h4' 5 2 f rfl) (h4' 5 3 f rfl)), hw 6 g h7 (all4 (h4' 6 0 g rfl) (h4' 6 1 g rfl) (h4' 6 2 g rfl) (h4' 6 3 g rfl)), hw 7 i h8 (all4 (h4' 7 0 i rfl) (h4' 7 1 i rfl) (h4' 7 2 i rfl) (h4' 7 3 i rfl))]

/-! the blocks -/
theorem first_eight : Eight impl_firstState.v := by
 refine ⟨rfl, ?_⟩
 intro x hx
 simp only [impl_firstState.v, List.mem_cons, List.not_mem_nil, or_false] at hx
 unfold W32
 omega
theorem stAt_eight {st : List Int} (h : Eight st) (s : ByteArray) : ∀ n, Eight (stAt st s n)
 | 0 => h
 | n + 1 => oneBlock_eight (stAt_eight h s n)
theorem ext_in (s e : ByteArray) (a b : Nat) (h : b ≤ s.size) : (s ++ e).extract a b = s.extract a b := by
 rw [ByteArray.extract_append, Nat.sub_eq_zero_of_le h]
 apply bytes_ext
 simp [ByteArray.data_append, ByteArray.data_extract]
theorem stAt_in (st : List Int) (s e : ByteArray) : ∀ n, 64 * n ≤ s.size → stAt st (s ++ e) n = stAt st s n
 | 0, _ => rfl
 | n + 1, h => by
  simp only [stAt]
  rw [stAt_in st s e n (by omega), ext_in s e _ _ (by omega)]
theorem ext_over (s e : ByteArray) (T : List Int) (n j : Nat) (hn : 64 * n ≤ s.size) (hT : s.extract (64 * n) s.size ++ e = strOfNums T) : (s ++ e).extract (64 * (n + j)) (64 * (n + j) + 64) = strOfNums ((T.drop (64 * j)).take 64) := by
 have hP : (s.extract 0 (64 * n)).size = 64 * n := by rw [ByteArray.size_extract]; omega
 have hs : s = s.extract 0 (64 * n) ++ s.extract (64 * n) s.size := by
  rw [ByteArray.extract_append_extract]
  apply bytes_ext
  rw [ByteArray.data_extract]
  simp [Nat.min_eq_left, Nat.max_eq_right hn]
  exact (List.take_of_length_le (by rw [Array.length_toList]; exact Nat.le_refl _)).symm
 have h1 : s ++ e = s.extract 0 (64 * n) ++ strOfNums T := by
  rw [← hT, ← ByteArray.append_assoc, ← hs]
 have h2 := ByteArray.extract_append_size_add (a := s.extract 0 (64 * n)) (b := strOfNums T) (i := 64 * j) (j := 64 * j + 64)
 rw [hP] at h2
 rw [h1, show 64 * (n + j) = 64 * n + 64 * j by omega, show 64 * n + 64 * j + 64 = 64 * n + (64 * j + 64) by omega, h2, strOf_extract]
 congr 2
 omega
theorem blocksAt_ev (s e : ByteArray) (T : List Int) (st : List Int) (hst : Eight st) (n : Nat) (hn : 64 * n ≤ s.size) (hT : s.extract (64 * n) s.size ++ e = strOfNums T) : ∀ j, 64 * j ≤ T.length → Ev (fun k => blocksAt k roundKeys T (stAt st s n) j) (stAt st (s ++ e) (n + j))
 | 0, _ => by
  rw [Nat.add_zero, stAt_in st s e n hn]
  exact Ev.now _
 | j + 1, h => by
  have ih := blocksAt_ev s e T st hst n hn hT j (by omega)
  simp only [blocksAt]
  refine Ev.bind ih ?_
  rw [show n + (j + 1) = n + j + 1 by omega]
  simp only [stAt]
  rw [ext_over s e T n j hn hT]
  exact spec_l05Round_ev _ _ (stAt_eight hst _ _) (by rw [strOfNums_size, List.length_take, List.length_drop]; omega)
end Go.Proofs.Ytnckhligcdieaaa.Pure
namespace Go.Proofs.Ytnckhligcdieaaa.Pure
open Go.RowKit Go.Proofs.YtnckhligcdieaaaW.PrintWords Go.Proofs.YtnckhligcdieaaaW.PrintLast Go.Proofs.YtnckhligcdieaaaW.PrintMore Go.Proofs.Ytnckhligcdieaaa.P Go.Proofs.Ytnckhligcdieaaa.Kit
set_option linter.unusedVariables false
set_option linter.unusedSimpArgs false

theorem hasherOk_eq (a b : ByteArray) (c : Nat) (ha : a.size = 32) (hb : b.size = c % 64) (hc : c ≤ 1000000000) : spec_HasherOk.f a b (c : Int) = some true := by
 unfold spec_HasherOk.f
 rw [if_pos (by omega), if_pos (by omega)]
 have : spec_l01In.f (c : Int) 0 1000000000 = some true := by
  unfold spec_l01In.f
  rw [if_pos (by omega), decide_eq_true (by omega)]
 rw [this]
 simp only [Option.bind_some]
 rw [if_pos trivial, Int.tmod_eq_emod_of_nonneg (by omega)]
 congr 1
 rw [beq_iff_eq]
 omega
def S0 : ByteArray := strOfNums (bytesW impl_firstState.v)
theorem bytes32 {l : List Int} (h : Eight l) : (strOfNums (bytesW l)).size = 32 := by
 rw [strOfNums_size, bytesW_len, h.1]
theorem spec_HasherNew_ev : Ev (fun k => spec_HasherNew.f k) (S0, (⟨#[]⟩ : ByteArray), 0) := by
 unfold spec_HasherNew.f
 refine Ev.then (a := impl_firstState.v) rfl ?_
 refine Ev.bind (spec_l05Bytes_ev _ (by decide) first_eight.2) ?_
 exact Ev.now _
theorem words_ev {l : List Int} (h : Eight l) : Ev (fun k => spec_l05Words.f k (strOfNums (bytesW l))) l := by
 have := spec_l05Words_ev (strOfNums (bytesW l)) 8 (bytes32 h) (by decide)
 rwa [wordL_bytes h] at this
theorem K_eq : spec_l05K.f = some roundKeys := rfl
theorem spec_HashMore_ev (s : ByteArray) (hs : s.size ≤ 1000000000) : Ev (fun k => spec_HashMore.f k S0 (⟨#[]⟩ : ByteArray) 0 s) (strOfNums (bytesW (stAt impl_firstState.v s (s.size / 64))), s.extract (64 * (s.size / 64)) s.size, (s.size : Int)) := by
 unfold spec_HashMore.f
 refine Ev.then (hasherOk_eq S0 _ 0 (bytes32 first_eight) rfl (by decide)) ?_
 refine Ev.pos rfl ?_
 have e0 : wrap64 (0 + (s.size : Int)) = (s.size : Int) := by rw [w64 (by omega) (by omega)]; omega
 have hd : decide (wrap64 (0 + (s.size : Int)) > 1000000000) = false := by rw [e0]; exact decide_eq_false (by omega)
 rw [hd]
 refine Ev.step (f := fun k => (spec_l05Words.f k S0).bind fun t => (spec_l05K.f).bind fun t2 => (spec_HashMore.l0 k s t t2 s 0 S0 (⟨#[]⟩ : ByteArray) 0)) (fun k => ?_) ?_
 ·simp only [spec_HashMore.j0]
  have hz : (⟨#[]⟩ : ByteArray).size + s.size ≤ 9223372036854775807 := (show 0 + s.size ≤ 9223372036854775807 by omega)
  rw [if_neg (by decide), empty_app]
  simp only [if_pos hz]
 refine Ev.bind (words_ev first_eight) ?_
 refine Ev.then K_eq ?_
 refine Ev.up (g := fun n k => spec_HashMore.l0 k s (stAt impl_firstState.v s n) roundKeys s ((64 * n : Nat) : Int) S0 (⟨#[]⟩ : ByteArray) 0) (s.size / 64) ?_ ?_ 0 (Nat.zero_le _)
 ·intro n hn hh
  have e1 : wrap64 (((64 * n : Nat) : Int) + 64) = ((64 * (n + 1) : Nat) : Int) := by rw [w64 (by omega) (by omega)]; omega
  refine Ev.step (f := fun k => (spec_l05Round.f k (stAt impl_firstState.v s n) roundKeys (s.extract (64 * n) (64 * n + 64))).bind fun t => spec_HashMore.l0 k s t roundKeys s ((64 * (n + 1) : Nat) : Int) S0 (⟨#[]⟩ : ByteArray) 0) (fun k => ?_) ?_
  ·simp only [spec_HashMore.l0]
   rw [e1, if_pos (by omega), if_pos (by omega), if_pos (by omega), Int.toNat_natCast, Int.toNat_natCast, show 64 * (n + 1) = 64 * n + 64 by omega]
  exact Ev.bind (spec_l05Round_ev _ _ (stAt_eight first_eight s n) (by rw [ByteArray.size_extract]; omega)) hh
 ·have e1 : wrap64 (((64 * (s.size / 64) : Nat) : Int) + 64) = ((64 * (s.size / 64 + 1) : Nat) : Int) := by rw [w64 (by omega) (by omega)]; omega
  refine Ev.step (f := fun k => (spec_l05Bytes.f k (stAt impl_firstState.v s (s.size / 64))).bind fun t => some (t, s.extract (64 * (s.size / 64)) s.size, (s.size : Int))) (fun k => ?_) ?_
  ·simp only [spec_HashMore.l0]
   have ha : (0 : Int) ≤ ((64 * (s.size / 64) : Nat) : Int) := by omega
   have hb : ((64 * (s.size / 64) : Nat) : Int) ≤ (s.size : Int) := by omega
   rw [e1, if_neg (by omega)]
   simp only [if_pos ha, if_pos hb, Int.toNat_natCast, e0]
  exact Ev.bind (spec_l05Bytes_ev _ (by rw [(stAt_eight first_eight s _).1]; decide) (stAt_eight first_eight s _).2) (Ev.now _)
end Go.Proofs.Ytnckhligcdieaaa.Pure
namespace Go.Proofs.Ytnckhligcdieaaa.Pure
open Go.RowKit Go.Proofs.YtnckhligcdieaaaW.PrintWords Go.Proofs.YtnckhligcdieaaaW.PrintLast Go.Proofs.YtnckhligcdieaaaW.PrintMore Go.Proofs.Ytnckhligcdieaaa.P

theorem l01In_eq (a b c : Int) : spec_l01In.f a b c = some (decide (b ≤ a ∧ a ≤ c)) := some_in a b c
theorem in_eq (a b c : Int) : impl_in.f a b c = some (decide (b ≤ a ∧ a ≤ c)) := some_in a b c

end Go.Proofs.Ytnckhligcdieaaa.Pure
namespace Go.Proofs.Ytnckhligcdieaaa.Pure
open Go.RowKit Go.Proofs.YtnckhligcdieaaaW.PrintWords Go.Proofs.YtnckhligcdieaaaW.PrintLast Go.Proofs.YtnckhligcdieaaaW.PrintMore Go.Proofs.Ytnckhligcdieaaa.P

def four (s : ByteArray) : Bool := decide (s.size = 4)
def sigOk (leaf : Int) (a b : List ByteArray) : Bool := decide (0 ≤ leaf ∧ leaf ≤ 3) && (decide (a.length = 10) && (a.all four && (decide (b.length = 2) && b.all four)))
theorem sigOk_all {leaf : Int} {a b : List ByteArray} (h : sigOk leaf a b = true) : (0 ≤ leaf ∧ leaf ≤ 3) ∧ a.length = 10 ∧ (∀ s ∈ a, s.size = 4) ∧ b.length = 2 ∧ ∀ s ∈ b, s.size = 4 := by
 unfold sigOk at h
 simp only [Bool.and_eq_true, decide_eq_true_eq, List.all_eq_true] at h
 exact ⟨h.1, h.2.1, fun s hs => of_decide_eq_true (h.2.2.1 s hs), h.2.2.2.1, fun s hs => of_decide_eq_true (h.2.2.2.2 s hs)⟩
theorem spec_SigOk_ev (leaf : Int) (a b : List ByteArray) : Ev (fun k => spec_SigOk.f k leaf a b) (sigOk leaf a b) := by
 have bad : Ev (fun k => spec_SigOk.j0 k true leaf a b) false := by
  refine Ev.step (f := fun _ => some false) (fun k => ?_) (Ev.now _)
  simp only [spec_SigOk.j0, if_true]
 unfold spec_SigOk.f sigOk
 simp only [l01In_eq, Option.bind_some]
 by_cases hl : 0 ≤ leaf ∧ leaf ≤ 3
 ·rw [decide_eq_true hl, Bool.true_and]
  refine Ev.pos rfl ?_
  by_cases ha : a.length = 10
  ·rw [decide_eq_true ha, Bool.true_and]
   refine Ev.pos (by omega) ?_
   by_cases hb : b.length = 2
   ·rw [decide_eq_true hb, Bool.true_and, show ((b.length : Int) != 2) = false by rw [bne_eq_false_iff_eq]; omega]
    refine Ev.step (f := fun k => spec_SigOk.l0 k 0 leaf a b) (fun k => ?_) ?_
    ·simp only [spec_SigOk.j0]
     rw [if_neg (by decide)]
    ·have tail : Ev (fun k => spec_SigOk.l1 k 0 leaf a b) (b.all four) := by
      refine Ev.upTo (g := fun i k => spec_SigOk.l1 k (i : Int) leaf a b) (r := fun i => (b.drop i).all four) b.length ?_ ?_ 0 (by omega)
      ·intro i hi h
       simp only [drop_all four b i hi]
       by_cases h4 : b[i].size = 4
       ·rw [show four b[i] = true from decide_eq_true h4, Bool.true_and]
        refine Ev.step (fun k => ?_) h
        simp only [spec_SigOk.l1]
        rw [if_pos (by omega), if_pos (by omega), rdOf_get _ b i hi, if_pos (by omega), w64s i (by omega)]
       ·rw [show four b[i] = false from decide_eq_false h4, Bool.false_and]
        refine Ev.step (f := fun _ => some false) (fun k => ?_) (Ev.now _)
        simp only [spec_SigOk.l1]
        rw [if_pos (by omega), if_pos (by omega), rdOf_get _ b i hi, if_neg (by omega)]
      ·refine Ev.step (f := fun _ => some ((b.drop b.length).all four)) (fun k => ?_) (Ev.now _)
       simp only [spec_SigOk.l1]
       rw [if_neg (by omega)]
       simp
     refine Ev.upTo (g := fun i k => spec_SigOk.l0 k (i : Int) leaf a b) (r := fun i => (a.drop i).all four && b.all four) a.length ?_ ?_ 0 (by omega)
     ·intro i hi h
      simp only [drop_all four a i hi]
      by_cases h4 : a[i].size = 4
      ·rw [show four a[i] = true from decide_eq_true h4, Bool.true_and]
       refine Ev.step (fun k => ?_) h
       simp only [spec_SigOk.l0]
       rw [if_pos (by omega), if_pos (by omega), rdOf_get _ a i hi, if_pos (by omega), w64s i (by omega)]
      ·rw [show four a[i] = false from decide_eq_false h4, Bool.false_and, Bool.false_and]
       refine Ev.step (f := fun _ => some false) (fun k => ?_) (Ev.now _)
       simp only [spec_SigOk.l0]
       rw [if_pos (by omega), if_pos (by omega), rdOf_get _ a i hi, if_neg (by omega)]
     ·refine Ev.step (f := fun k => spec_SigOk.l1 k 0 leaf a b) (fun k => ?_) (by simpa using tail)
      simp only [spec_SigOk.l0]
      rw [if_neg (by omega)]
   ·rw [decide_eq_false hb, Bool.false_and, Bool.and_false, show ((b.length : Int) != 2) = true by rw [bne_iff_ne]; omega]
    exact bad
  ·rw [decide_eq_false ha, Bool.false_and]
   exact Ev.neg (by omega) bad
 ·rw [decide_eq_false hl, Bool.false_and]
  exact Ev.neg (by decide) bad
theorem impl_allShort_ev (l : List ByteArray) (n : Nat) (hl : l.length ≤ 35184372088832) : Ev (fun k => impl_allShort.f k l (n : Int)) (decide (l.length = n) && l.all four) := by
 unfold impl_allShort.f
 refine Ev.upTo (g := fun i k => impl_allShort.l0 k l (n : Int) l (l.length : Int) (i : Int)) (r := fun i => decide (l.length = n) && (l.drop i).all four) l.length ?_ ?_ 0 (by omega)
 ·intro i hi h
  simp only [drop_all four l i hi]
  by_cases h4 : l[i].size = 4
  ·rw [show four l[i] = true from decide_eq_true h4, Bool.true_and]
   refine Ev.step (fun k => ?_) h
   simp only [impl_allShort.l0]
   rw [if_pos (by omega), if_pos (by omega), if_pos (by omega), rdOf_get _ l i hi, if_pos (by omega), w64s i (by omega)]
  ·rw [show four l[i] = false from decide_eq_false h4, Bool.false_and, Bool.and_false]
   refine Ev.step (f := fun _ => some false) (fun k => ?_) (Ev.now _)
   simp only [impl_allShort.l0]
   rw [if_pos (by omega), if_pos (by omega), if_pos (by omega), rdOf_get _ l i hi, if_neg (by omega)]
 ·refine Ev.step (f := fun _ => some (decide (l.length = n) && (l.drop l.length).all four)) (fun k => ?_) (Ev.now _)
  simp only [impl_allShort.l0]
  rw [if_neg (by omega)]
  by_cases h : l.length = n
  ·rw [decide_eq_true h, show ((l.length : Int) == (n : Int)) = true by rw [beq_iff_eq]; omega]; simp
  ·rw [decide_eq_false h, show ((l.length : Int) == (n : Int)) = false by rw [beq_eq_false_iff_ne]; omega]; rfl
theorem impl_SigOk_ev (leaf : Int) (a b : List ByteArray) (hla : a.length ≤ 35184372088832) (hlb : b.length ≤ 35184372088832) : Ev (fun k => impl_SigOk.f k leaf a b) (sigOk leaf a b) := by
 unfold impl_SigOk.f sigOk
 simp only [in_eq, Option.bind_some]
 by_cases hl : 0 ≤ leaf ∧ leaf ≤ 3
 ·rw [decide_eq_true hl, Bool.true_and, ← Bool.and_assoc]
  refine Ev.pos rfl (Ev.bind (impl_allShort_ev a 10 hla) ?_)
  cases ha : (decide (a.length = 10) && a.all four) with
  | true => rw [Bool.true_and]; exact Ev.pos rfl (Ev.bind (impl_allShort_ev b 2 hlb) (Ev.now _))
  | false => rw [Bool.false_and]; exact Ev.neg (by decide) (Ev.now _)
 ·rw [decide_eq_false hl, Bool.false_and]
  exact Ev.neg (by decide) (Ev.now _)

/-- Texts, one behind the other. -/
def catL (t : ByteArray) (l : List ByteArray) : ByteArray := l.foldl (· ++ ·) t
theorem catL_snoc (t : ByteArray) (l : List ByteArray) (i : Nat) (h : i < l.length) : catL t (l.take i) ++ l[i] = catL t (l.take (i + 1)) := by
 unfold catL
 rw [← List.take_append_getElem h, List.foldl_append]
 rfl
theorem catL_size (t : ByteArray) (l : List ByteArray) (n : Nat) (h : ∀ s ∈ l, s.size = n) : (catL t l).size = t.size + n * l.length := by
 unfold catL
 induction l generalizing t with
 | nil => simp
 | cons a l ih =>
  rw [List.foldl_cons, ih _ fun s hs => h s (List.mem_cons_of_mem _ hs), ByteArray.size_append, h a (List.mem_cons_self ..), List.length_cons, Nat.mul_succ]
  omega
def byteV (n : Int) : ByteArray := strOfNums [n % 256]
theorem byteV_size (n : Int) : (byteV n).size = 1 := by simp [byteV, strOfNums_size]
theorem impl_oneByte_eq (n : Int) : impl_oneByte.f n = some (byteV n) := rfl
theorem spec_l06Byte_eq (n : Int) (h1 : -9223372036854775808 ≤ n) (h2 : n ≤ 9223372036854775807) : spec_l06Byte.f n = some (byteV n) := by
 unfold spec_l06Byte.f byteV
 by_cases h : 0 ≤ n
 ·rw [Int.tmod_eq_emod_of_nonneg h, if_neg (by omega), show n % 256 % 256 = n % 256 by omega]
 ·have e : Int.tmod n 256 = -((-n) % 256) := by
   have := Int.neg_tmod (-n) 256
   rw [Int.neg_neg] at this
   rw [this, Int.tmod_eq_emod_of_nonneg (by omega)]
  rw [e]
  by_cases h0 : -((-n) % 256) < 0
  ·rw [if_pos h0, w64 (by omega) (by omega), show (-((-n) % 256) + 256) % 256 = n % 256 by omega]
  ·rw [if_neg h0, show -((-n) % 256) % 256 = n % 256 by omega]
def sigTextR (leaf : Int) (a b : List ByteArray) : ByteArray × Bool := if sigOk leaf a b = true then (catL (catL (byteV leaf) a) b, true) else (⟨#[]⟩, false)
theorem take_size (t : ByteArray) (l : List ByteArray) (n i : Nat) (h : ∀ s ∈ l, s.size = n) (hi : i ≤ l.length) : (catL t (l.take i)).size = t.size + n * i := by
 rw [catL_size t (l.take i) n fun s hs => h s (List.mem_of_mem_take hs), List.length_take, Nat.min_eq_left hi]
theorem spec_SigText_ev (leaf : Int) (a b : List ByteArray) (h1 : -9223372036854775808 ≤ leaf) (h2 : leaf ≤ 9223372036854775807) : Ev (fun k => spec_SigText.f k leaf a b) (sigTextR leaf a b) := by
 unfold spec_SigText.f sigTextR
 refine Ev.bind (spec_SigOk_ev leaf a b) ?_
 by_cases h : sigOk leaf a b = true
 ·obtain ⟨_, ha, ha4, hb, hb4⟩ := sigOk_all h
  rw [if_pos h]
  refine Ev.pos h (Ev.then (spec_l06Byte_eq leaf h1 h2) ?_)
  have tail : Ev (fun k => spec_SigText.l1 k (catL (byteV leaf) a) 0 leaf a b) (catL (catL (byteV leaf) a) b, true) := by
   refine Ev.up (g := fun i k => spec_SigText.l1 k (catL (catL (byteV leaf) a) (b.take i)) (i : Int) leaf a b) b.length ?_ ?_ 0 (by omega)
   ·intro i hi h'
    refine Ev.step (fun k => ?_) h'
    have e1 := take_size (catL (byteV leaf) a) b 4 i hb4 (by omega)
    have e2 := catL_size (byteV leaf) a 4 ha4
    have e3 := byteV_size leaf
    have e4 := hb4 b[i] (List.getElem_mem hi)
    simp only [spec_SigText.l1]
    rw [if_pos (by omega), if_pos (by omega), if_pos (by omega), rdOf_get _ b i hi, if_pos (by omega), catL_snoc _ b i hi, w64s i (by omega)]
   ·refine Ev.step (f := fun _ => some (catL (catL (byteV leaf) a) b, true)) (fun k => ?_) (Ev.now _)
    simp only [spec_SigText.l1]
    rw [if_neg (by omega), List.take_of_length_le (by omega)]
  refine Ev.up (g := fun i k => spec_SigText.l0 k (catL (byteV leaf) (a.take i)) (i : Int) leaf a b) a.length ?_ ?_ 0 (by omega)
  ·intro i hi h'
   refine Ev.step (fun k => ?_) h'
   have e1 := take_size (byteV leaf) a 4 i ha4 (by omega)
   have e3 := byteV_size leaf
   have e4 := ha4 a[i] (List.getElem_mem hi)
   simp only [spec_SigText.l0]
   rw [if_pos (by omega), if_pos (by omega), if_pos (by omega), rdOf_get _ a i hi, if_pos (by omega), catL_snoc _ a i hi, w64s i (by omega)]
  ·refine Ev.step (fun k => ?_) tail
   simp only [spec_SigText.l0]
   rw [if_neg (by omega), List.take_of_length_le (by omega)]
 ·rw [if_neg h]
  exact Ev.neg h (Ev.now _)
theorem impl_SigText_ev (leaf : Int) (a b : List ByteArray) (hla : a.length ≤ 35184372088832) (hlb : b.length ≤ 35184372088832) : Ev (fun k => impl_SigText.f k leaf a b) (sigTextR leaf a b) := by
 unfold impl_SigText.f sigTextR
 refine Ev.bind (impl_SigOk_ev leaf a b hla hlb) ?_
 by_cases h : sigOk leaf a b = true
 ·obtain ⟨_, ha, ha4, hb, hb4⟩ := sigOk_all h
  rw [if_pos h]
  refine Ev.pos h (Ev.then (impl_oneByte_eq leaf) ?_)
  have tail : Ev (fun k => impl_SigText.l1 k (catL (byteV leaf) a) b (b.length : Int) 0) (catL (catL (byteV leaf) a) b, true) := by
   refine Ev.up (g := fun i k => impl_SigText.l1 k (catL (catL (byteV leaf) a) (b.take i)) b (b.length : Int) (i : Int)) b.length ?_ ?_ 0 (by omega)
   ·intro i hi h'
    refine Ev.step (fun k => ?_) h'
    have e1 := take_size (catL (byteV leaf) a) b 4 i hb4 (by omega)
    have e2 := catL_size (byteV leaf) a 4 ha4
    have e3 := byteV_size leaf
    have e4 := hb4 b[i] (List.getElem_mem hi)
    simp only [impl_SigText.l1]
    rw [if_pos (by omega), if_pos (by omega), if_pos (by omega), rdOf_get _ b i hi, if_pos (by omega), catL_snoc _ b i hi, w64s i (by omega)]
   ·refine Ev.step (f := fun _ => some (catL (catL (byteV leaf) a) b, true)) (fun k => ?_) (Ev.now _)
    simp only [impl_SigText.l1]
    rw [if_neg (by omega), List.take_of_length_le (by omega)]
  refine Ev.up (g := fun i k => impl_SigText.l0 k (catL (byteV leaf) (a.take i)) a (a.length : Int) (i : Int) leaf a b) a.length ?_ ?_ 0 (by omega)
  ·intro i hi h'
   refine Ev.step (fun k => ?_) h'
   have e1 := take_size (byteV leaf) a 4 i ha4 (by omega)
   have e3 := byteV_size leaf
   have e4 := ha4 a[i] (List.getElem_mem hi)
   simp only [impl_SigText.l0]
   rw [if_pos (by omega), if_pos (by omega), if_pos (by omega), rdOf_get _ a i hi, if_pos (by omega), catL_snoc _ a i hi, w64s i (by omega)]
  ·refine Ev.step (fun k => ?_) tail
   simp only [impl_SigText.l0]
   rw [if_neg (by omega), List.take_of_length_le (by omega)]
 ·rw [if_neg h]
  exact Ev.neg h (Ev.now _)
end Go.Proofs.Ytnckhligcdieaaa.Pure
namespace Go.Proofs.Ytnckhligcdieaaa.Pure
open Go.RowKit Go.Proofs.YtnckhligcdieaaaW.PrintWords Go.Proofs.YtnckhligcdieaaaW.PrintLast Go.Proofs.YtnckhligcdieaaaW.PrintMore Go.Proofs.Ytnckhligcdieaaa.P Go.Proofs.Ytnckhligcdieaaa.Kit
set_option linter.unusedVariables false
set_option linter.unusedSimpArgs false

theorem digest_so (s : ByteArray) (hs : s.size ≤ 1000000000) : ∃ d, d.size = 32 ∧ Ev (fun k => spec_DigestOf.f k s) d := by
 have hrs : (s.extract (64 * (s.size / 64)) s.size).size = s.size % 64 := by rw [ByteArray.size_extract]; omega
 obtain ⟨e, hT⟩ : ∃ e, s.extract (64 * (s.size / 64)) s.size ++ e = strOfNums (tailE (s.extract (64 * (s.size / 64)) s.size) (s.size : Int) 8) := by
  refine ⟨strOfNums ([128] ++ List.replicate (padN (s.extract (64 * (s.size / 64)) s.size)) 0 ++ endB (wrap64 (8 * (s.size : Int))) 8), ?_⟩
  have := strOf_app (bl (s.extract (64 * (s.size / 64)) s.size)) ([128] ++ List.replicate (padN (s.extract (64 * (s.size / 64)) s.size)) 0 ++ endB (wrap64 (8 * (s.size : Int))) 8)
  rw [strOfNums_bl] at this
  rw [this]
  unfold tailE tailZ
  simp only [List.append_assoc]
 have hTl := tailE_len (s.extract (64 * (s.size / 64)) s.size) (s.size : Int) 8
 have hpad : (s.size % 64 + 1 + padN (s.extract (64 * (s.size / 64)) s.size) + 8) % 64 = 0 := by unfold padN; rw [hrs]; omega
 have hes2 : e.size + s.size % 64 = s.size % 64 + 1 + padN (s.extract (64 * (s.size / 64)) s.size) + 8 := by
  have := congrArg ByteArray.size hT
  rw [ByteArray.size_append, strOfNums_size, hTl, hrs] at this
  omega
 rw [hrs] at hTl
 have hn : (s ++ e).size / 64 = s.size / 64 + (tailE (s.extract (64 * (s.size / 64)) s.size) (s.size : Int) 8).length / 64 := by
  rw [ByteArray.size_append, hTl]
  omega
 refine ⟨strOfNums (bytesW (stAt impl_firstState.v (s ++ e) ((s ++ e).size / 64))), bytes32 (stAt_eight first_eight _ _), ?_⟩
 unfold spec_DigestOf.f
 refine Ev.bind spec_HasherNew_ev ?_
 refine Ev.bind (spec_HashMore_ev s hs) ?_
 refine Ev.bind (a := strOfNums (bytesW (stAt impl_firstState.v (s ++ e) ((s ++ e).size / 64)))) ?_ (Ev.now _)
 show Ev (fun k => spec_HashEnd.f k (strOfNums (bytesW (stAt impl_firstState.v s (s.size / 64)))) (s.extract (64 * (s.size / 64)) s.size) (s.size : Int)) _
 unfold spec_HashEnd.f
 refine Ev.then (hasherOk_eq _ _ _ (bytes32 (stAt_eight first_eight s _)) hrs hs) ?_
 refine Ev.pos rfl ?_
 refine Ev.bind (words_ev (stAt_eight first_eight s _)) ?_
 refine Ev.then K_eq ?_
 refine Ev.bind (blocksAt_ev s e _ _ first_eight (s.size / 64) (by omega) hT _ (by omega)) ?_
 rw [← hn]
 exact spec_l05Bytes_ev _ (by rw [(stAt_eight first_eight _ _).1]; decide) (stAt_eight first_eight _ _).2
def byteS (n : Int) : ByteArray := strOfNums [n % 256]
theorem byteS_size (n : Int) : (byteS n).size = 1 := by simp [byteS, strOfNums_size]
theorem tmod_bounds' (n : Int) : -256 < Int.tmod n 256 ∧ Int.tmod n 256 < 256 ∧ (Int.tmod n 256) % 256 = n % 256 := by
 have h := Int.mul_tdiv_add_tmod n 256
 have h1 := Int.tmod_lt_of_pos n (show (0 : Int) < 256 by decide)
 have h2 := Int.lt_tmod_of_pos n (show (0 : Int) < 256 by decide)
 refine ⟨h2, h1, ?_⟩
 omega
theorem l06Byte_so (n : Int) : spec_l06Byte.f n = some (byteS n) := by
 obtain ⟨h1, h2, h3⟩ := tmod_bounds' n
 unfold spec_l06Byte.f byteS
 split
 ·rw [w64 (by omega) (by omega), show (Int.tmod n 256 + 256) % 256 = n % 256 by omega]
 ·rw [h3]
theorem in_so (a b c : Int) : spec_l01In.f a b c = some (decide (b ≤ a ∧ a ≤ c)) := some_in a b c
theorem chop_so (s : ByteArray) (hs : s.size ≤ 1000000000) : ∃ d, d.size = 4 ∧ Ev (fun k => spec_Chop.f k s) d := by
 obtain ⟨d, h1, h2⟩ := digest_so s hs
 refine ⟨d.extract 0 4, by rw [ByteArray.size_extract]; omega, ?_⟩
 unfold spec_Chop.f
 exact Ev.bind h2 (Ev.pos (by decide) (Ev.pos (by omega) (Ev.now _)))
theorem node_so (a b : Int) (s t : ByteArray) (hs : s.size ≤ 400000000) (ht : t.size ≤ 400000000) : ∃ d, d.size = 4 ∧ Ev (fun k => spec_Node.f k a b s t) d := by
 have ha := byteS_size a
 have hb := byteS_size b
 have hz : (byteS a ++ byteS b).size = 2 := by rw [ByteArray.size_append]; omega
 have hz2 : ((byteS a ++ byteS b) ++ s).size = 2 + s.size := by rw [ByteArray.size_append]; omega
 have hz3 : (((byteS a ++ byteS b) ++ s) ++ t).size = 2 + s.size + t.size := by rw [ByteArray.size_append]; omega
 obtain ⟨d, h1, h2⟩ := chop_so ((((byteS a ++ byteS b) ++ s) ++ t) ++ (⟨#[110]⟩ : ByteArray)) (by rw [ByteArray.size_append]; show _ + 1 ≤ _; omega)
 refine ⟨d, h1, ?_⟩
 unfold spec_Node.f
 refine Ev.then (l06Byte_so a) (Ev.then (l06Byte_so b) ?_)
 exact Ev.pos (by omega) (Ev.pos (by omega) (Ev.pos (by omega) (Ev.pos (by omega) (Ev.bind h2 (Ev.now _)))))
theorem chain_so_from (leaf chain a steps : Int) : ∀ (n i : Nat) (x : ByteArray), x.size ≤ 999999990 → i + n = 15 → ∃ d, (d = x ∨ d.size = 4) ∧ Ev (fun k => spec_ChainOf.l0 k x leaf chain a steps (i : Int)) d := by
 intro n
 induction n with
 | zero =>
  intro i x hx hn
  refine ⟨x, Or.inl rfl, ?_⟩
  by_cases h1 : (i : Int) < steps
  ·refine Ev.step (f := fun k => spec_ChainOf.j1 k x leaf chain a steps (i : Int) (decide ((i : Int) < 15))) (fun k => by simp only [spec_ChainOf.l0]; rw [if_pos h1]) ?_
   rw [decide_eq_false (by omega)]
   exact Ev.step (f := fun _ => some x) (fun k => by simp only [spec_ChainOf.j1]; rw [if_neg (by decide)]) (Ev.now _)
  ·refine Ev.step (f := fun k => spec_ChainOf.j1 k x leaf chain a steps (i : Int) false) (fun k => by simp only [spec_ChainOf.l0]; rw [if_neg h1]) ?_
   exact Ev.step (f := fun _ => some x) (fun k => by simp only [spec_ChainOf.j1]; rw [if_neg (by decide)]) (Ev.now _)
 | succ n ih =>
  intro i x hx hn
  by_cases h1 : (i : Int) < steps
  ·have b1 := byteS_size leaf
   have b2 := byteS_size chain
   have b3 := byteS_size (wrap64 ((Int.tmod a 256) + (i : Int)))
   have s2 : (byteS leaf ++ byteS chain).size = 2 := by rw [ByteArray.size_append]; omega
   have s3 : ((byteS leaf ++ byteS chain) ++ byteS (wrap64 ((Int.tmod a 256) + (i : Int)))).size = 3 := by rw [ByteArray.size_append]; omega
   obtain ⟨d, d4, e1⟩ := chop_so (((byteS leaf ++ byteS chain) ++ byteS (wrap64 ((Int.tmod a 256) + (i : Int)))) ++ x) (by rw [ByteArray.size_append]; omega)
   obtain ⟨r, hr, f1⟩ := ih (i + 1) d (by omega) (by omega)
   refine ⟨r, Or.inr (by rcases hr with rfl | hr; exact d4; exact hr), ?_⟩
   refine Ev.step (f := fun k => spec_ChainOf.j1 k x leaf chain a steps (i : Int) (decide ((i : Int) < 15))) (fun k => by simp only [spec_ChainOf.l0]; rw [if_pos h1]) ?_
   rw [decide_eq_true (by omega)]
   refine Ev.step (f := fun k => (spec_Chop.f k (((byteS leaf ++ byteS chain) ++ byteS (wrap64 ((Int.tmod a 256) + (i : Int)))) ++ x)).bind fun t => spec_ChainOf.l0 k t leaf chain a steps (wrap64 ((i : Int) + 1))) (fun k => ?_) ?_
   ·simp only [spec_ChainOf.j1]
    rw [if_pos trivial, l06Byte_so, l06Byte_so]
    simp only [Option.bind_some]
    rw [if_pos (by omega), l06Byte_so]
    simp only [Option.bind_some]
    rw [if_pos (by omega), if_pos (by omega)]
   ·refine Ev.bind e1 ?_
    rw [w64s i (by omega)]
    exact f1
  ·refine ⟨x, Or.inl rfl, ?_⟩
   refine Ev.step (f := fun k => spec_ChainOf.j1 k x leaf chain a steps (i : Int) false) (fun k => by simp only [spec_ChainOf.l0]; rw [if_neg h1]) ?_
   exact Ev.step (f := fun _ => some x) (fun k => by simp only [spec_ChainOf.j1]; rw [if_neg (by decide)]) (Ev.now _)
theorem chain_so (x : ByteArray) (leaf chain a steps : Int) (hx : x.size ≤ 999999990) : ∃ d, (d = x ∨ d.size = 4) ∧ Ev (fun k => spec_ChainOf.f k x leaf chain a steps) d := chain_so_from leaf chain a steps 15 0 x hx rfl
theorem keys_so (seed : ByteArray) (leaf : Int) (hs : seed.size ≤ 999999990) : ∀ (n i : Nat) (l : List ByteArray), l.length = i → i + n = 10 → (∀ s ∈ l, s.size = 4) → ∃ r, r.length = 10 ∧ (∀ s ∈ r, s.size = 4) ∧ Ev (fun k => spec_OnceKey.l0 k seed leaf l (i : Int)) r
 | 0, i, l, hl, hn, h4 => ⟨l, by omega, h4, Ev.step (f := fun _ => some l) (fun k => by simp only [spec_OnceKey.l0]; rw [if_neg (by omega)]) (Ev.now _)⟩
 | n + 1, i, l, hl, hn, h4 => by
  have b1 := byteS_size leaf
  have b2 := byteS_size (i : Int)
  have s1 : (seed ++ byteS leaf).size = seed.size + 1 := by rw [ByteArray.size_append]; omega
  have s2 : ((seed ++ byteS leaf) ++ byteS (i : Int)).size = seed.size + 2 := by rw [ByteArray.size_append]; omega
  obtain ⟨d, d4, e1⟩ := chop_so (((seed ++ byteS leaf) ++ byteS (i : Int)) ++ (⟨#[111]⟩ : ByteArray)) (by rw [ByteArray.size_append]; show _ + 1 ≤ _; omega)
  obtain ⟨r, r1, r2, f1⟩ := keys_so seed leaf hs n (i + 1) (l ++ [d]) (by simp; omega) (by omega) (by
   intro s hs'
   rcases List.mem_append.mp hs' with h | h
   ·exact h4 s h
   ·simp at h; subst h; exact d4)
  refine ⟨r, r1, r2, ?_⟩
  refine Ev.step (f := fun k => (spec_Chop.f k (((seed ++ byteS leaf) ++ byteS (i : Int)) ++ (⟨#[111]⟩ : ByteArray))).bind fun t => if l.length < 8796093022208 then spec_OnceKey.l0 k seed leaf (l ++ [t]) (wrap64 ((i : Int) + 1)) else none) (fun k => ?_) ?_
  ·simp only [spec_OnceKey.l0]
   rw [if_pos (by omega), l06Byte_so]
   simp only [Option.bind_some]
   rw [if_pos (by omega), l06Byte_so]
   simp only [Option.bind_some]
   rw [if_pos (by omega), if_pos (by omega)]
  ·refine Ev.bind e1 (Ev.pos (by omega) ?_)
   rw [w64s i (by omega)]
   exact f1
theorem onceKey_so (seed : ByteArray) (leaf : Int) (hs : seed.size ≤ 999999990) : ∃ r, r.length = 10 ∧ (∀ s ∈ r, s.size = 4) ∧ Ev (fun k => spec_OnceKey.f k seed leaf) r := keys_so seed leaf hs 10 0 [] rfl rfl (by simp)
theorem level_so_from (lv : Int) (l : List ByteArray) (hl : l.length ≤ 1048576) (hs : ∀ s ∈ l, s.size ≤ 1048576) : ∀ (n i : Nat) (acc : List ByteArray), acc.length = i → i + n = l.length / 2 → (∀ s ∈ acc, s.size = 4) → ∃ r, r.length = l.length / 2 ∧ (∀ s ∈ r, s.size = 4) ∧ Ev (fun k => spec_LevelUp.l0 k lv l acc (i : Int)) r
 | 0, i, acc, ha, hn, h4 => by
  have e1 : wrap64 (2 * (i : Int)) = ((2 * i : Nat) : Int) := by rw [w64 (by omega) (by omega)]; omega
  have e2 : wrap64 (((2 * i : Nat) : Int) + 1) = ((2 * i + 1 : Nat) : Int) := by rw [w64 (by omega) (by omega)]; rfl
  exact ⟨acc, by omega, h4, Ev.step (f := fun _ => some acc) (fun k => by simp only [spec_LevelUp.l0]; rw [e1, e2, if_neg (by omega)]) (Ev.now _)⟩
 | n + 1, i, acc, ha, hn, h4 => by
  have e1 : wrap64 (2 * (i : Int)) = ((2 * i : Nat) : Int) := by rw [w64 (by omega) (by omega)]; omega
  have e2 : wrap64 (((2 * i : Nat) : Int) + 1) = ((2 * i + 1 : Nat) : Int) := by rw [w64 (by omega) (by omega)]; rfl
  have h0 : 2 * i < l.length := by omega
  have h1 : 2 * i + 1 < l.length := by omega
  obtain ⟨d, d4, f1⟩ := node_so lv (i : Int) (rdOf ByteArray.empty l ((2 * i : Nat) : Int)) (rdOf ByteArray.empty l ((2 * i + 1 : Nat) : Int)) (by rw [rdOf_get _ _ _ h0]; have := hs _ (List.getElem_mem h0); omega) (by rw [rdOf_get _ _ _ h1]; have := hs _ (List.getElem_mem h1); omega)
  obtain ⟨r, r1, r2, g1⟩ := level_so_from lv l hl hs n (i + 1) (acc ++ [d]) (by simp; omega) (by omega) (by
   intro s hs'
   rcases List.mem_append.mp hs' with h | h
   ·exact h4 s h
   ·simp at h; subst h; exact d4)
  refine ⟨r, r1, r2, ?_⟩
  refine Ev.step (f := fun k => (spec_Node.f k lv (i : Int) (rdOf ByteArray.empty l ((2 * i : Nat) : Int)) (rdOf ByteArray.empty l ((2 * i + 1 : Nat) : Int))).bind fun t => if acc.length < 8796093022208 then spec_LevelUp.l0 k lv l (acc ++ [t]) (wrap64 ((i : Int) + 1)) else none) (fun k => ?_) ?_
  ·simp only [spec_LevelUp.l0]
   rw [e1, e2, if_pos (by omega), if_pos (by omega), if_pos (by omega), if_pos (by omega)]
  ·refine Ev.bind f1 (Ev.pos (by omega) ?_)
   rw [w64s i (by omega)]
   exact g1
theorem level_so (lv : Int) (l : List ByteArray) (hl : l.length ≤ 1048576) (hs : ∀ s ∈ l, s.size ≤ 1048576) : ∃ r, r.length = l.length / 2 ∧ (∀ s ∈ r, s.size = 4) ∧ Ev (fun k => spec_LevelUp.f k lv l) r := level_so_from lv l hl hs (l.length / 2) 0 [] rfl (by omega) (by simp)
theorem root_so (l : List ByteArray) (hs : ∀ s ∈ l, s.size ≤ 1048576) (h : l.length = 4) : ∃ d, d.size = 4 ∧ Ev (fun k => spec_RootOf.f k l) d := by
 obtain ⟨r, r1, r2, f1⟩ := level_so 1 l (by omega) hs
 obtain ⟨t, t1, t2, g1⟩ := level_so 2 r (by omega) (fun s hs' => by rw [r2 s hs']; decide)
 have h0 : 0 < t.length := by omega
 have e1 : wrap64 (1 + 1) = 2 := w64 (by decide) (by decide)
 have e2 : wrap64 (2 + 1) = 3 := w64 (by decide) (by decide)
 have ed : rdOf ByteArray.empty t 0 = t[0] := rdOf_get _ t 0 h0
 have d4 : (rdOf ByteArray.empty t 0).size = 4 := by rw [ed]; exact t2 _ (List.getElem_mem h0)
 refine ⟨rdOf ByteArray.empty t 0, d4, ?_⟩
 unfold spec_RootOf.f
 refine Ev.pos (by omega) ?_
 refine Ev.step (f := fun k => (spec_LevelUp.f k 1 l).bind fun t377 => spec_RootOf.l0 k t377 2) (fun k => by simp only [spec_RootOf.l0]; rw [if_pos (by decide), e1]) (Ev.bind f1 ?_)
 refine Ev.step (f := fun k => (spec_LevelUp.f k 2 r).bind fun t377 => spec_RootOf.l0 k t377 3) (fun k => by simp only [spec_RootOf.l0]; rw [if_pos (by decide), e2]) (Ev.bind g1 ?_)
 exact Ev.step (f := fun _ => some (rdOf ByteArray.empty t 0)) (fun k => by simp only [spec_RootOf.l0]; rw [if_neg (by decide), if_pos (by omega)]) (Ev.now _)
theorem public_so_from (leaf : Int) (l : List ByteArray) (hl : l.length = 10) (hs : ∀ s ∈ l, s.size ≤ 1048576) : ∀ (n i : Nat) (acc : ByteArray), i + n = 10 → acc.size ≤ i * 1048576 → ∃ d, d.size = 4 ∧ Ev (fun k => spec_OncePublic.l0 k l leaf acc (i : Int)) d
 | 0, i, acc, hn, ha => by
  obtain ⟨d, d4, f1⟩ := chop_so acc (by omega)
  exact ⟨d, d4, Ev.step (f := fun k => (spec_Chop.f k acc).bind fun t => some t) (fun k => by simp only [spec_OncePublic.l0]; rw [if_neg (by omega)]) (Ev.bind f1 (Ev.now _))⟩
 | n + 1, i, acc, hn, ha => by
  have hi : i < l.length := by omega
  have hz : (rdOf ByteArray.empty l (i : Int)).size ≤ 1048576 := by rw [rdOf_get _ _ _ hi]; exact hs _ (List.getElem_mem hi)
  obtain ⟨c, hc, e1⟩ := chain_so (rdOf ByteArray.empty l (i : Int)) leaf (i : Int) 0 15 (by omega)
  have hc4 : c.size ≤ 1048576 := by rcases hc with rfl | hc <;> omega
  obtain ⟨d, d4, g1⟩ := public_so_from leaf l hl hs n (i + 1) (acc ++ c) (by omega) (by rw [ByteArray.size_append]; omega)
  refine ⟨d, d4, ?_⟩
  refine Ev.step (f := fun k => (spec_ChainOf.f k (rdOf ByteArray.empty l (i : Int)) leaf (i : Int) 0 15).bind fun t => if acc.size + t.size ≤ 9223372036854775807 then spec_OncePublic.l0 k l leaf (acc ++ t) (wrap64 ((i : Int) + 1)) else none) (fun k => ?_) (Ev.bind e1 (Ev.pos (by omega) ?_))
  ·simp only [spec_OncePublic.l0]
   rw [if_pos (by omega), if_pos (by omega), if_pos (by omega)]
  ·rw [w64s i (by omega)]
   exact g1
theorem oncePublic_so (l : List ByteArray) (leaf : Int) (hl : l.length = 10) (hs : ∀ s ∈ l, s.size ≤ 1048576) : ∃ d, d.size = 4 ∧ Ev (fun k => spec_OncePublic.f k l leaf) d := by
 obtain ⟨d, d4, f1⟩ := public_so_from leaf l hl hs 10 0 ⟨#[]⟩ rfl (by decide)
 refine ⟨d, d4, ?_⟩
 unfold spec_OncePublic.f
 exact Ev.pos (by omega) f1
theorem leaves_so_from (seed : ByteArray) (hs : seed.size ≤ 999999990) : ∀ (n i : Nat) (l : List ByteArray), l.length = i → i + n = 4 → (∀ s ∈ l, s.size ≤ 4) → ∃ r, r.length = 4 ∧ (∀ s ∈ r, s.size ≤ 4) ∧ Ev (fun k => spec_l16Leaves.l0 k seed l (i : Int)) r
 | 0, i, l, hl, hn, h4 => ⟨l, by omega, h4, Ev.step (f := fun _ => some l) (fun k => by simp only [spec_l16Leaves.l0]; rw [if_neg (by omega)]) (Ev.now _)⟩
 | n + 1, i, l, hl, hn, h4 => by
  obtain ⟨ks, k1, k2, f1⟩ := onceKey_so seed (i : Int) hs
  obtain ⟨p, p4, g1⟩ := oncePublic_so ks (i : Int) k1 (fun s h => by rw [k2 s h]; decide)
  obtain ⟨r, r1, r2, e1⟩ := leaves_so_from seed hs n (i + 1) (l ++ [p]) (by simp; omega) (by omega) (by
   intro s hs'
   rcases List.mem_append.mp hs' with h | h
   ·exact h4 s h
   ·simp at h; subst h; omega)
  refine ⟨r, r1, r2, ?_⟩
  refine Ev.step (f := fun k => (spec_OnceKey.f k seed (i : Int)).bind fun t => ((spec_OncePublic.f k t (i : Int)).bind fun u => if l.length < 8796093022208 then spec_l16Leaves.l0 k seed (l ++ [u]) (wrap64 ((i : Int) + 1)) else none)) (fun k => by simp only [spec_l16Leaves.l0]; rw [if_pos (by omega)]) (Ev.bind f1 (Ev.bind g1 (Ev.pos (by omega) ?_)))
  rw [w64s i (by omega)]
  exact e1
theorem leaves_so (seed : ByteArray) (hs : seed.size ≤ 999999990) : ∃ r, r.length = 4 ∧ (∀ s ∈ r, s.size ≤ 4) ∧ Ev (fun k => spec_l16Leaves.f k seed) r := leaves_so_from seed hs 4 0 [] rfl rfl (by simp)
theorem publicOf_so (seed : ByteArray) (hs : seed.size ≤ 999999990) : ∃ d, d.size = 4 ∧ Ev (fun k => spec_PublicOf.f k seed) d := by
 obtain ⟨r, r1, r2, f1⟩ := leaves_so seed hs
 obtain ⟨d, d4, g1⟩ := root_so r (fun s h => by have := r2 s h; omega) r1
 refine ⟨d, d4, ?_⟩
 unfold spec_PublicOf.f
 exact Ev.bind f1 (Ev.bind g1 (Ev.now _))
end Go.Proofs.Ytnckhligcdieaaa.Pure
namespace Go.Proofs.Ytnckhligcdieaaa.Pure
open Go.RowKit Go.Proofs.YtnckhligcdieaaaW.PrintWords Go.Proofs.YtnckhligcdieaaaW.PrintLast Go.Proofs.YtnckhligcdieaaaW.PrintMore Go.Proofs.Ytnckhligcdieaaa.P

theorem and255 (x : Int) : 0 ≤ Go.bits .and .i64 x 255 ∧ Go.bits .and .i64 x 255 ≤ 255 := by
 have h : ((BitVec.ofInt 64 x &&& BitVec.ofInt 64 255).toNat) ≤ 255 := by
  rw [BitVec.toNat_and]
  exact Nat.and_le_right
 show 0 ≤ IntKind.i64.wrap (((BitVec.ofInt 64 x &&& BitVec.ofInt 64 255).toNat : Nat) : Int) ∧ IntKind.i64.wrap (((BitVec.ofInt 64 x &&& BitVec.ofInt 64 255).toNat : Nat) : Int) ≤ 255
 rw [IntKind.wrap_i64]
 omega
/-- The place of a cursor. -/
def Cur (l : List Int) (i : Int) : Prop := 0 ≤ i ∧ i ≤ l.length ∧ l.length ≤ 1048576
theorem new_some (l : List Int) (hl : l.length ≤ 1048576) : ∃ h, Ev (fun k => spec_l01New.f k l) (l, 0, h) ∧ Cur l 0 := by
 have key : ∀ d i : Nat, ∀ h : Int, l.length - i = d → i ≤ l.length → ∃ h', Ev (fun k => spec_l01New.l0 k l h (i : Int)) (l, (0 : Int), h') := by
  intro d
  induction d with
  | zero =>
   intro i h hd hi
   refine ⟨h, Ev.step (f := fun _ => some (l, 0, h)) (fun k => ?_) (Ev.now _)⟩
   simp only [spec_l01New.l0]
   rw [if_neg (by omega)]
  | succ d ih =>
   intro i h hd hi
   by_cases h4 : i < 4000
   ·obtain ⟨h', e⟩ := ih (i + 1) (Go.bits .and .i64 (wrap64 ((wrap64 ((wrap64 (h * 131)) + (wrap64 (rd l i)))) + 7)) 1073741823) (by omega) (by omega)
    refine ⟨h', Ev.step (fun k => ?_) e⟩
    simp only [spec_l01New.l0]
    rw [if_pos (by omega), if_pos (by omega), if_pos (by omega), w64s i (by omega)]
   ·refine ⟨h, Ev.step (f := fun _ => some (l, 0, h)) (fun k => ?_) (Ev.now _)⟩
    simp only [spec_l01New.l0]
    rw [if_pos (by omega), if_neg (by omega)]
 obtain ⟨h', e⟩ := key l.length 0 (wrap64 (27401 + (l.length : Int))) (by omega) (by omega)
 exact ⟨h', e, by unfold Cur; omega⟩
theorem byte_some (l : List Int) (i h : Int) (hc : Cur l i) : ∃ x i' h', spec_l01Byte.f l i h = some (x, i', h') ∧ 0 ≤ x ∧ x ≤ 255 ∧ Cur l i' := by
 obtain ⟨h0, h1, h2⟩ := hc
 unfold spec_l01Byte.f
 by_cases hi : i < l.length
 ·rw [if_pos hi, if_pos h0, w64 (x := i + 1) (by omega) (by omega)]
  exact ⟨_, _, _, rfl, (and255 _).1, (and255 _).2, by unfold Cur; omega⟩
 ·rw [if_neg hi]
  exact ⟨_, _, _, rfl, (and255 _).1, (and255 _).2, by unfold Cur; omega⟩
theorem tmod_range {x n : Int} (h0 : 0 ≤ x) (hn : 0 < n) : 0 ≤ Int.tmod x n ∧ Int.tmod x n < n := by
 rw [Int.tmod_eq_emod_of_nonneg h0]
 exact ⟨Int.emod_nonneg _ (by omega), Int.emod_lt_of_pos _ hn⟩
theorem below_some (l : List Int) (i h n : Int) (hc : Cur l i) (hn : 0 < n) : ∃ x i' h', spec_l01Below.f l i h n = some (x, i', h') ∧ 0 ≤ x ∧ x < n ∧ Cur l i' := by
 unfold spec_l01Below.f
 rw [if_neg (by omega)]
 by_cases h256 : n ≤ 256
 ·obtain ⟨x, i', h', e, hx0, hx1, hc'⟩ := byte_some l i h hc
  rw [if_pos h256, e]
  simp only [Option.bind_some]
  rw [if_neg (by omega)]
  exact ⟨_, _, _, rfl, (tmod_range hx0 hn).1, (tmod_range hx0 hn).2, hc'⟩
 ·obtain ⟨a, i1, h1, e1, ha0, ha1, hc1⟩ := byte_some l i h hc
  obtain ⟨b, i2, h2, e2, hb0, hb1, hc2⟩ := byte_some l i1 h1 hc1
  obtain ⟨c, i3, h3, e3, hc0, hc1', hc3⟩ := byte_some l i2 h2 hc2
  obtain ⟨d, i4, h4, e4, hd0, hd1, hc4⟩ := byte_some l i3 h3 hc3
  rw [if_neg h256, e1]
  simp only [Option.bind_some]
  rw [e2]
  simp only [Option.bind_some]
  rw [e3]
  simp only [Option.bind_some]
  rw [e4]
  simp only [Option.bind_some]
  rw [if_neg (by omega)]
  have e : wrap64 ((wrap64 ((wrap64 ((wrap64 (a * 16777216)) + (wrap64 (b * 65536)))) + (wrap64 (c * 256)))) + d) = a * 16777216 + b * 65536 + c * 256 + d := by
   rw [w64 (x := a * 16777216) (by omega) (by omega), w64 (x := b * 65536) (by omega) (by omega), w64 (x := c * 256) (by omega) (by omega), w64 (x := a * 16777216 + b * 65536) (by omega) (by omega), w64 (x := a * 16777216 + b * 65536 + c * 256) (by omega) (by omega), w64 (by omega) (by omega)]
  rw [e]
  have hx0 : 0 ≤ a * 16777216 + b * 65536 + c * 256 + d := by omega
  exact ⟨_, _, _, rfl, (tmod_range hx0 hn).1, (tmod_range hx0 hn).2, hc4⟩

end Go.Proofs.Ytnckhligcdieaaa.Pure
namespace Go.Proofs.Ytnckhligcdieaaa.Pure
open Go.RowKit Go.Proofs.YtnckhligcdieaaaW.PrintWords Go.Proofs.YtnckhligcdieaaaW.PrintLast Go.Proofs.YtnckhligcdieaaaW.PrintMore Go.Proofs.Ytnckhligcdieaaa.P

theorem pickInt_some (l : List Int) (i h : Int) (xs : List Int) (hc : Cur l i) (hx : 0 < xs.length) : ∃ x i' h', spec_l01PickInt.f l i h xs = some (x, i', h') ∧ x ∈ xs ∧ Cur l i' := by
 obtain ⟨x, i', h', e, h0, h1, hc'⟩ := below_some l i h xs.length hc (by omega)
 refine ⟨rd xs x, i', h', ?_, rd_mem xs x h0 h1, hc'⟩
 unfold spec_l01PickInt.f
 rw [e, Option.bind_some, if_pos h0, if_pos h1]
theorem text_some (l : List Int) (i h : Int) (n : Int) (hc : Cur l i) (hn : n ≤ 5000) : ∃ (t : ByteArray) (i' h' : Int), Ev (fun k => spec_l01Text.f k l i h n) (t, i', h') ∧ t.size = n.toNat ∧ Cur l i' := by
 have key : ∀ d m : Nat, ∀ (ps : List Int) (i h : Int), n.toNat - m = d → m ≤ n.toNat → Cur l i → ps.length = m →
   ∃ (t : ByteArray) (i' h' : Int), Ev (fun k => spec_l01Text.l0 k n ps (m : Int) l i h) (t, i', h') ∧ t.size = n.toNat ∧ Cur l i' := by
  intro d
  induction d with
  | zero =>
   intro m ps i h hd hm hc hp
   refine ⟨strOfNums ps, i, h, Ev.step (f := fun _ => some (strOfNums ps, i, h)) (fun k => ?_) (Ev.now _), by rw [strOfNums_size]; omega, hc⟩
   simp only [spec_l01Text.l0]
   rw [if_neg (by omega)]
  | succ d ih =>
   intro m ps i h hd hm hc hp
   obtain ⟨x, i1, h1, e1, _, _, hc1⟩ := byte_some l i h hc
   obtain ⟨t, i', h', e, ht, hc'⟩ := ih (m + 1) (ps ++ [x % 256]) i1 h1 (by omega) (by omega) hc1 (by simp [hp])
   have c1 : (m : Int) < n := by omega
   have c2 : ps.length < 140737488355328 := by omega
   refine ⟨t, i', h', Ev.step (fun k => ?_) e, ht, hc'⟩
   simp only [spec_l01Text.l0]
   rw [if_pos c1, e1, Option.bind_some, if_pos c2, w64s m (by omega)]
 obtain ⟨t, i', h', e, ht, hc'⟩ := key n.toNat 0 [] i h (by omega) (by omega) hc rfl
 refine ⟨t, i', h', ?_, ht, hc'⟩
 unfold spec_l01Text.f
 refine Ev.neg (by omega) ?_
 refine Ev.step (fun k => ?_) e
 simp only [spec_l01Text.j0]
 rfl
theorem spoilt_some (l : List Int) (i h : Int) (s : ByteArray) (hc : Cur l i) (hs : s.size ≤ 1000000) : ∃ (t : ByteArray) (i' h' : Int), Ev (fun k => spec_l02Spoilt.f k l i h s) (t, i', h') ∧ t.size ≤ 1000001 ∧ Cur l i' := by
 obtain ⟨x, i1, h1, e1, hx0, hx1, hc1⟩ := below_some l i h 12 hc (by omega)
 have no : ∃ (t : ByteArray) (i' h' : Int), Ev (fun k => spec_l02Spoilt.j0 k s false l i1 h1) (t, i', h') ∧ t.size ≤ 1000001 ∧ Cur l i' := by
  refine ⟨s, i1, h1, Ev.step (f := fun _ => some (s, i1, h1)) (fun k => ?_) (Ev.now _), by omega, hc1⟩
  simp only [spec_l02Spoilt.j0]
  rw [if_neg (by decide)]
 have yes : ∃ (t : ByteArray) (i' h' : Int), Ev (fun k => spec_l02Spoilt.j0 k s true l i1 h1) (t, i', h') ∧ t.size ≤ 1000001 ∧ Cur l i' := by
  by_cases hp : (s.size : Int) > 0
  ·obtain ⟨y, i2, h2, e2, hy0, hy1, hc2⟩ := below_some l i1 h1 s.size hc1 (by omega)
   obtain ⟨t, i3, h3, e3, ht, hc3⟩ := text_some l i2 h2 1 hc2 (by omega)
   have ew : wrap64 (y + 1) = y + 1 := w64 (by omega) (by omega)
   have s1 : (s.extract 0 y.toNat).size ≤ s.size := by rw [ByteArray.size_extract]; omega
   have s2 : (s.extract (y + 1).toNat s.size).size ≤ s.size - (y + 1).toNat := by rw [ByteArray.size_extract]; omega
   have s1' : (s.extract 0 y.toNat).size = y.toNat := by rw [ByteArray.size_extract]; omega
   have ht1 : t.size = 1 := by rw [ht]; rfl
   have s3 : (s.extract 0 y.toNat ++ t).size = y.toNat + 1 := by rw [ByteArray.size_append, s1', ht1]
   refine ⟨(s.extract 0 y.toNat ++ t) ++ s.extract (y + 1).toNat s.size, i3, h3, ?_, by rw [ByteArray.size_append, s3]; omega, hc3⟩
   refine Ev.step (f := fun k => (spec_l01Text.f k l i2 h2 1).bind fun bt216 => (if (s.extract 0 (y : Int).toNat).size + bt216.1.size ≤ 9223372036854775807 then (if 0 ≤ (y + 1) then (if (y + 1) ≤ (s.size : Int) then (if ((s.extract 0 (y : Int).toNat) ++ bt216.1).size + (s.extract ((y + 1) : Int).toNat s.size).size ≤ 9223372036854775807 then (some (((s.extract 0 (y : Int).toNat) ++ bt216.1) ++ (s.extract ((y + 1) : Int).toNat s.size), bt216.2.1, bt216.2.2)) else (none)) else (none)) else (none)) else (none))) (fun k => ?_) (Ev.bind e3 ?_)
   ·simp only [spec_l02Spoilt.j0]
    rw [if_pos trivial, if_pos hp, e2, Option.bind_some, if_pos hy0, if_pos (by omega), ew]
   ·exact Ev.pos (by show (s.extract 0 y.toNat).size + t.size ≤ _; omega) (Ev.pos (by omega) (Ev.pos (by omega) (Ev.pos (by show (s.extract 0 y.toNat ++ t).size + (s.extract (y + 1).toNat s.size).size ≤ _; omega) (Ev.now _))))
  ·refine ⟨s, i1, h1, Ev.step (f := fun _ => some (s, i1, h1)) (fun k => ?_) (Ev.now _), by omega, hc1⟩
   simp only [spec_l02Spoilt.j0]
   rw [if_pos trivial, if_neg hp]
 have both : ∀ b : Bool, ∃ (t : ByteArray) (i' h' : Int), Ev (fun k => spec_l02Spoilt.j0 k s b l i1 h1) (t, i', h') ∧ t.size ≤ 1000001 ∧ Cur l i' := fun b => by
  cases b with
  | true => exact yes
  | false => exact no
 unfold spec_l02Spoilt.f
 simp only [e1, Option.bind_some]
 by_cases h0 : x = 0
 ·obtain ⟨t, i3, h3, e3, ht, hc3⟩ := text_some l i1 h1 1 hc1 (by omega)
  have ht1 : t.size = 1 := by rw [ht]; rfl
  exact ⟨s ++ t, i3, h3, Ev.pos h0 (Ev.bind e3 (Ev.pos (by show s.size + t.size ≤ _; omega) (Ev.now _))), by rw [ByteArray.size_append]; omega, hc3⟩
 ·by_cases h1' : x = 1
  ·have ew : wrap64 ((s.size : Int) + 1) = (s.size : Int) + 1 := w64 (by omega) (by omega)
   obtain ⟨y, i2, h2, e2, hy0, hy1, hc2⟩ := below_some l i1 h1 ((s.size : Int) + 1) hc1 (by omega)
   refine ⟨s.extract 0 y.toNat, i2, h2, Ev.neg h0 (Ev.pos h1' ?_), by rw [ByteArray.size_extract]; omega, hc2⟩
   rw [ew, e2]
   exact Ev.pos hy0 (Ev.pos (by omega) (Ev.now _))
  ·by_cases h2 : x = 2
   ·obtain ⟨t, i', h', e, p⟩ := both (x == 2)
    exact ⟨t, i', h', Ev.neg h0 (Ev.neg h1' (Ev.pos h2 e)), p⟩
   ·obtain ⟨t, i', h', e, p⟩ := both (x == 3)
    exact ⟨t, i', h', Ev.neg h0 (Ev.neg h1' (Ev.neg h2 e)), p⟩
end Go.Proofs.Ytnckhligcdieaaa.Pure
namespace Go.Proofs.Ytnckhligcdieaaa.Pure
set_option linter.unusedVariables false
open Go.RowKit Go.Proofs.YtnckhligcdieaaaW.PrintWords Go.Proofs.YtnckhligcdieaaaW.PrintLast Go.Proofs.YtnckhligcdieaaaW.PrintMore Go.Proofs.Ytnckhligcdieaaa.P

theorem pick_some (l : List Int) (i h : Int) (xs : List ByteArray) (hc : Cur l i) (hx : 0 < xs.length) : ∃ x i' h', spec_l01Pick.f l i h xs = some (x, i', h') ∧ x ∈ xs ∧ Cur l i' := by
 obtain ⟨x, i', h', e, h0, h1, hc'⟩ := below_some l i h xs.length hc (by omega)
 obtain ⟨u, rfl⟩ := Int.eq_ofNat_of_zero_le h0
 refine ⟨rdOf ByteArray.empty xs (u : Int), i', h', ?_, ?_, hc'⟩
 ·unfold spec_l01Pick.f
  rw [e, Option.bind_some, if_pos h0, if_pos h1]
 ·rw [rdOf_get _ _ _ (by omega)]
  exact List.getElem_mem _
theorem seed_some (l : List Int) (i h : Int) (hc : Cur l i) : ∃ (x : ByteArray) (i' h' : Int), spec_l16Seed.f l i h = some (x, i', h') ∧ x.size ≤ 4 ∧ Cur l i' := by
 obtain ⟨x, i', h', e, hm, hc'⟩ := pick_some l i h [(⟨#[]⟩ : ByteArray), (⟨#[97]⟩ : ByteArray), (⟨#[98]⟩ : ByteArray), (⟨#[115, 101, 101, 100]⟩ : ByteArray)] hc (by decide)
 refine ⟨x, i', h', ?_, ?_, hc'⟩
 ·unfold spec_l16Seed.f
  rw [e]
  rfl
 ·simp only [List.mem_cons, List.not_mem_nil, or_false] at hm
  rcases hm with rfl | rfl | rfl | rfl <;> decide
end Go.Proofs.Ytnckhligcdieaaa.Pure
namespace Go.Proofs.Ytnckhligcdieaaa.Pure
open Go.RowKit Go.Proofs.YtnckhligcdieaaaW.PrintWords Go.Proofs.YtnckhligcdieaaaW.PrintLast Go.Proofs.YtnckhligcdieaaaW.PrintMore Go.Proofs.Ytnckhligcdieaaa.P Go.Proofs.Ytnckhligcdieaaa.Kit
set_option linter.unusedVariables false
set_option linter.unusedSimpArgs false

def sibS (p : Nat) : Nat := if p % 2 = 1 then p - 1 else p + 1
theorem sibS_lt (p n : Nat) (h : p < 2 * n) : sibS p < 2 * n := by unfold sibS; split <;> omega
theorem path_so_at (lv : Nat) (hlv : lv ≤ 2) (l r : List ByteArray) (p m : Nat) (acc R : List ByteArray) (hl : l.length = 2 * m) (hm : m ≤ 2) (hp : p < 2 * m) (ha : acc.length ≤ 5) (f : Ev (fun k => spec_LevelUp.f k (lv : Int) l) r)
  (h : Ev (fun k => spec_PathOf.l0 k r ((p / 2 : Nat) : Int) (acc ++ [rdOf ByteArray.empty l ((sibS p : Nat) : Int)]) ((lv + 1 : Nat) : Int)) R) : Ev (fun k => spec_PathOf.l0 k l (p : Int) acc (lv : Int)) R := by
 have hs := sibS_lt p m hp
 have e1 : wrap64 (Int.tdiv (p : Int) 2) = ((p / 2 : Nat) : Int) := by rw [Int.tdiv_eq_ediv_of_nonneg (by omega), w64 (by omega) (by omega)]; omega
 have e2 : Int.tmod (p : Int) 2 = ((p % 2 : Nat) : Int) := by rw [Int.tmod_eq_emod_of_nonneg (by omega)]; omega
 refine Ev.step (f := fun k => (spec_LevelUp.f k (lv : Int) l).bind fun t => spec_PathOf.l0 k t ((p / 2 : Nat) : Int) (acc ++ [rdOf ByteArray.empty l ((sibS p : Nat) : Int)]) ((lv + 1 : Nat) : Int)) (fun k => ?_) (Ev.bind f h)
 simp only [spec_PathOf.l0]
 rw [if_pos (by omega), e1, e2, w64s lv (by omega)]
 by_cases hb : p % 2 = 1
 ·have e3 : wrap64 ((p : Int) - 1) = ((sibS p : Nat) : Int) := by rw [w64 (by omega) (by omega)]; unfold sibS; rw [if_pos hb]; omega
  rw [if_pos (by omega), e3, if_pos (by omega), if_pos (by omega), if_pos (by omega)]
 ·have e3 : wrap64 ((p : Int) + 1) = ((sibS p : Nat) : Int) := by rw [w64 (by omega) (by omega)]; unfold sibS; rw [if_neg hb]; rfl
  rw [if_neg (by omega), e3, if_pos (by omega), if_pos (by omega), if_pos (by omega)]
theorem path_so (l : List ByteArray) (q : Nat) (hq : q ≤ 3) (hl : l.length = 4) (hs : ∀ s ∈ l, s.size ≤ 1048576) : ∃ R, R.length = 2 ∧ Ev (fun k => spec_PathOf.f k l (q : Int)) R := by
 obtain ⟨r, r1, r2, f1⟩ := level_so 1 l (by omega) hs
 obtain ⟨t, t1, t2, g1⟩ := level_so 2 r (by omega) (fun s h => by rw [r2 s h]; decide)
 refine ⟨([] ++ [rdOf ByteArray.empty l ((sibS q : Nat) : Int)]) ++ [rdOf ByteArray.empty r ((sibS (q / 2) : Nat) : Int)], by simp, ?_⟩
 unfold spec_PathOf.f
 refine Ev.then rfl (Ev.pos (by omega) (Ev.then (in_so _ _ _) ?_))
 rw [decide_eq_true (by omega)]
 refine Ev.step (f := fun k => spec_PathOf.l0 k l (q : Int) [] 1) (fun k => by simp only [spec_PathOf.j0]; rw [if_neg (by decide)]) ?_
 refine path_so_at 1 (by decide) l r q 2 [] _ (by omega) (by omega) (by omega) (by simp) f1 ?_
 refine path_so_at 2 (by decide) r t (q / 2) 1 _ _ (by omega) (by omega) (by omega) (by simp) g1 ?_
 exact Ev.step (f := fun _ => some _) (fun k => by simp only [spec_PathOf.l0]; rw [if_neg (by decide)]) (Ev.now _)
def digS (d : ByteArray) : Nat → List Int
 | 0 => []
 | n + 1 => digS d n ++ [bt d (n : Int) / 16, bt d (n : Int) % 16]
def sumS (d : ByteArray) : Nat → Int
 | 0 => 0
 | n + 1 => sumS d n + 30 - bt d (n : Int) / 16 - bt d (n : Int) % 16
theorem digS_len (d : ByteArray) (n : Nat) : (digS d n).length = 2 * n := by
 induction n with
 | zero => rfl
 | succ n ih => simp [digS, ih]; omega
theorem sumS_range (d : ByteArray) (n : Nat) : 0 ≤ sumS d n ∧ sumS d n ≤ 30 * n := by
 induction n with
 | zero => simp [sumS]
 | succ n ih =>
  have hb := bt_range d (n : Int)
  simp only [sumS]
  push_cast
  omega
theorem digits_so (m : ByteArray) (hm : m.size ≤ 1000000000) : ∃ R : List Int, R.length = 10 ∧ Ev (fun k => spec_DigitsOf.f k m) R := by
 obtain ⟨d, d4, f1⟩ := chop_so m hm
 have hS := sumS_range d 4
 have hend : ([wrap64 (Int.tdiv (sumS d 4) 16), Int.tmod (sumS d 4) 16] : List Int) = [sumS d 4 / 16, sumS d 4 % 16] := by
  rw [Int.tdiv_eq_ediv_of_nonneg hS.1, Int.tmod_eq_emod_of_nonneg hS.1, w64 (by omega) (by omega)]
 refine ⟨digS d 4 ++ [sumS d 4 / 16, sumS d 4 % 16], by rw [List.length_append, digS_len]; rfl, ?_⟩
 unfold spec_DigitsOf.f
 refine Ev.bind f1 ?_
 refine Ev.up (g := fun i k => spec_DigitsOf.l0 k d (digS d i) (sumS d i) (i : Int)) 4 ?_ ?_ 0 (Nat.zero_le _)
 ·intro i hi hh
  have hb := bt_range d (i : Int)
  have hs := sumS_range d i
  refine Ev.step (fun k => ?_) hh
  simp only [spec_DigitsOf.l0, Option.bind_some]
  rw [w64 (x := bt d (i : Int)) (by omega) (by omega), Int.tdiv_eq_ediv_of_nonneg hb.1, Int.tmod_eq_emod_of_nonneg hb.1, w64 (x := bt d (i : Int) / 16) (by omega) (by omega)]
  rw [if_pos (by omega), if_pos (by omega), if_pos (by omega), if_pos (by rw [digS_len]; simp; omega), w64s i (by omega)]
  have e : wrap64 (wrap64 (wrap64 (sumS d i + 30) - bt d (i : Int) / 16) - bt d (i : Int) % 16) = sumS d (i + 1) := by
   rw [w64 (x := sumS d i + 30) (by omega) (by omega), w64 (x := sumS d i + 30 - bt d (i : Int) / 16) (by omega) (by omega), w64 (by omega) (by omega)]
   rfl
  rw [e]
  rfl
 ·refine Ev.step (f := fun _ => some (digS d 4 ++ [sumS d 4 / 16, sumS d 4 % 16])) (fun k => ?_) (Ev.now _)
  simp only [spec_DigitsOf.l0, Option.bind_some]
  rw [hend, if_neg (by omega), if_pos (by rw [digS_len]; simp)]
theorem sign_so_from (leaf : Int) (l : List ByteArray) (ds : List Int) (hl : l.length = 10) (hd : ds.length = 10) (hs : ∀ s ∈ l, s.size ≤ 1048576) : ∀ (n i : Nat) (acc : List ByteArray), acc.length = i → i + n = 10 → ∃ r, r.length = 10 ∧ Ev (fun k => spec_OnceSign.l0 k l leaf acc ds (i : Int)) r
 | 0, i, acc, ha, hn => ⟨acc, by omega, Ev.step (f := fun _ => some acc) (fun k => by simp only [spec_OnceSign.l0]; rw [if_neg (by omega)]) (Ev.now _)⟩
 | n + 1, i, acc, ha, hn => by
  have hi : i < l.length := by omega
  have hz : (rdOf ByteArray.empty l (i : Int)).size ≤ 1048576 := by rw [rdOf_get _ _ _ hi]; exact hs _ (List.getElem_mem hi)
  obtain ⟨c, hc, e1⟩ := chain_so (rdOf ByteArray.empty l (i : Int)) leaf (i : Int) 0 (rd ds (i : Int)) (by omega)
  obtain ⟨r, r1, g1⟩ := sign_so_from leaf l ds hl hd hs n (i + 1) (acc ++ [c]) (by simp; omega) (by omega)
  refine ⟨r, r1, ?_⟩
  refine Ev.step (f := fun k => (spec_ChainOf.f k (rdOf ByteArray.empty l (i : Int)) leaf (i : Int) 0 (rd ds (i : Int))).bind fun t => if acc.length < 8796093022208 then spec_OnceSign.l0 k l leaf (acc ++ [t]) ds (wrap64 ((i : Int) + 1)) else none) (fun k => ?_) (Ev.bind e1 (Ev.pos (by omega) ?_))
  ·simp only [spec_OnceSign.l0]
   rw [if_pos (by omega), if_pos (by omega), if_pos (by omega), if_pos (by omega)]
  ·rw [w64s i (by omega)]
   exact g1
theorem sign_so (l : List ByteArray) (leaf : Int) (m : ByteArray) (hl : l.length = 10) (hm : m.size ≤ 1000000000) (hs : ∀ s ∈ l, s.size ≤ 1048576) : ∃ r, r.length = 10 ∧ Ev (fun k => spec_OnceSign.f k l leaf m) r := by
 obtain ⟨ds, d1, f1⟩ := digits_so m hm
 obtain ⟨r, r1, g1⟩ := sign_so_from leaf l ds hl d1 hs 10 0 [] rfl rfl
 refine ⟨r, r1, ?_⟩
 unfold spec_OnceSign.f
 exact Ev.then rfl (Ev.pos (by omega) (Ev.bind f1 g1))
theorem signAt_so (seed : ByteArray) (p : Nat) (hp : p ≤ 3) (m : ByteArray) (hs : seed.size ≤ 999999990) (hm : m.size ≤ 1000000000) : ∃ (a b : List ByteArray), a.length = 10 ∧ b.length = 2 ∧ Ev (fun k => spec_SignAt.f k seed (p : Int) m) ((p : Int), a, b, true) := by
 obtain ⟨ks, k1, k2, f1⟩ := onceKey_so seed (p : Int) hs
 obtain ⟨r, r1, g1⟩ := sign_so ks (p : Int) m k1 hm (fun s q => by rw [k2 s q]; decide)
 obtain ⟨l, l1, l2, e1⟩ := leaves_so seed hs
 obtain ⟨q, q1, h1⟩ := path_so l p hp l1 (fun s q => by have := l2 s q; omega)
 refine ⟨r, q, r1, q1, ?_⟩
 unfold spec_SignAt.f
 exact Ev.then (in_so _ _ _) (Ev.pos (decide_eq_true (by omega)) (Ev.bind f1 (Ev.bind g1 (Ev.bind e1 (Ev.bind h1 (Ev.now _))))))
theorem hyperSign_so (seed : ByteArray) (i : Nat) (hi : i ≤ 15) (m : ByteArray) (hs : seed.size ≤ 999999980) (hm : m.size ≤ 1000000000) : ∃ (a b : List ByteArray) (r : ByteArray) (c d : List ByteArray), a.length = 10 ∧ b.length = 2 ∧ r.size = 4 ∧ c.length = 10 ∧ d.length = 2 ∧ Ev (fun k => spec_HyperSign.f k seed (i : Int) m) (((i / 4 : Nat) : Int), a, b, r, ((i % 4 : Nat) : Int), c, d, true) := by
 have e1 : wrap64 (Int.tdiv (i : Int) 4) = ((i / 4 : Nat) : Int) := by rw [Int.tdiv_eq_ediv_of_nonneg (by omega), w64 (by omega) (by omega)]; omega
 have e2 : Int.tmod (i : Int) 4 = ((i % 4 : Nat) : Int) := by rw [Int.tmod_eq_emod_of_nonneg (by omega)]; omega
 have lo : i / 4 ≤ 3 ∧ i % 4 ≤ 3 := by omega
 have hb := byteS_size ((i / 4 : Nat) : Int)
 have s0 : (seed ++ byteS ((i / 4 : Nat) : Int)).size = seed.size + 1 := by rw [ByteArray.size_append]; omega
 have s1 : ((seed ++ byteS ((i / 4 : Nat) : Int)) ++ (⟨#[108]⟩ : ByteArray)).size = seed.size + 2 := by rw [ByteArray.size_append, s0]; rfl
 have s2 : (seed ++ (⟨#[116]⟩ : ByteArray)).size = seed.size + 1 := by rw [ByteArray.size_append]; rfl
 obtain ⟨r, r4, f1⟩ := publicOf_so ((seed ++ byteS ((i / 4 : Nat) : Int)) ++ (⟨#[108]⟩ : ByteArray)) (by clear e1 e2; omega)
 obtain ⟨c, d, c1, d1, g1⟩ := signAt_so ((seed ++ byteS ((i / 4 : Nat) : Int)) ++ (⟨#[108]⟩ : ByteArray)) (i % 4) lo.2 m (by clear e1 e2; omega) hm
 obtain ⟨a, b, a1, b1, h1⟩ := signAt_so (seed ++ (⟨#[116]⟩ : ByteArray)) (i / 4) lo.1 r (by clear e1 e2; omega) (by clear e1 e2; omega)
 refine ⟨a, b, r, c, d, a1, b1, r4, c1, d1, ?_⟩
 have hlow : spec_l17Low.f seed ((i / 4 : Nat) : Int) = some ((seed ++ byteS ((i / 4 : Nat) : Int)) ++ (⟨#[108]⟩ : ByteArray)) := by
  unfold spec_l17Low.f
  rw [l06Byte_so]
  simp only [Option.bind_some]
  rw [if_pos (by clear e1 e2; omega), if_pos (by clear e1 e2; omega)]
 unfold spec_HyperSign.f
 refine Ev.then (in_so _ _ _) (Ev.pos (decide_eq_true (by clear e1 e2; omega)) ?_)
 simp only [e1, e2]
 exact Ev.then hlow (Ev.bind f1 (Ev.bind g1 (Ev.pos (by clear e1 e2; omega) (Ev.bind h1 (Ev.now _)))))
/-- A number of a signature that an int can hold. -/
def InS (x : Int) : Prop := -9223372036854775808 ≤ x ∧ x ≤ 9223372036854775807
theorem sig_so (l : List Int) (i h : Int) (hc : Cur l i) : ∃ (s m : ByteArray) (x : Int) (a b : List ByteArray) (i' h' : Int), s.size ≤ 4 ∧ m.size ≤ 3 ∧ InS x ∧ a.length ≤ 10 ∧ b.length ≤ 2 ∧ Ev (fun k => spec_l16Sig.f k l i h) (s, m, x, a, b, i', h') ∧ Cur l i' := by
 obtain ⟨s, i1, h1, e1, s4, c1⟩ := seed_some l i h hc
 obtain ⟨n, i2, h2, e2, n0, n1, c2⟩ := below_some l i1 h1 4 c1 (by decide)
 obtain ⟨m, i3, h3, e3, ms, c3⟩ := text_some l i2 h2 n c2 (by omega)
 obtain ⟨p, i4, h4, e4, p0, p1, c4⟩ := below_some l i3 h3 4 c3 (by decide)
 obtain ⟨q, rfl⟩ := Int.eq_ofNat_of_zero_le p0
 obtain ⟨a, b, a1, b1, e5⟩ := signAt_so s q (by omega) m (by omega) (by omega)
 obtain ⟨v, i5, h5, e6, v0, v1, c5⟩ := below_some l i4 h4 12 c4 (by decide)
 unfold spec_l16Sig.f
 by_cases q0 : v = 0
 ·obtain ⟨x, i6, h6, e7, xm, c6⟩ := pickInt_some l i5 h5 [(-1), 0, 4] c5 (by decide)
  refine ⟨s, m, x, a, b, i6, h6, s4, by omega, ?_, by omega, by omega, ?_, c6⟩
  ·simp only [List.mem_cons, List.not_mem_nil, or_false] at xm
   rcases xm with rfl | rfl | rfl <;> (unfold InS; omega)
  ·exact Ev.then e1 (Ev.then e2 (Ev.bind e3 (Ev.then e4 (Ev.bind e5 (Ev.then e6 (Ev.pos q0 (Ev.then e7 (Ev.now _))))))))
 by_cases q1 : v = 1
 ·obtain ⟨y, i6, h6, e7, y0, y1, c6⟩ := below_some l i5 h5 10 c5 (by decide)
  obtain ⟨z, i7, h7, e8, zm, c7⟩ := pickInt_some l i6 h6 [3, 4, 4] c6 (by decide)
  have hz : z ≤ 5000 := by
   simp only [List.mem_cons, List.not_mem_nil, or_false] at zm
   omega
  obtain ⟨t, i8, h8, e9, ts, c8⟩ := text_some l i7 h7 z c7 hz
  refine ⟨s, m, (q : Int), a.set y.toNat t, b, i8, h8, s4, by omega, ⟨by omega, by omega⟩, by simp; omega, by omega, ?_, c8⟩
  exact Ev.then e1 (Ev.then e2 (Ev.bind e3 (Ev.then e4 (Ev.bind e5 (Ev.then e6 (Ev.neg q0 (Ev.pos q1 (Ev.then e7 (Ev.then e8 (Ev.bind e9 (Ev.pos y0 (Ev.pos (by show y < (a.length : Int); omega) (Ev.now _)))))))))))))
 by_cases q2 : v = 2
 ·obtain ⟨z, i7, h7, e8, zm, c7⟩ := pickInt_some l i5 h5 [4, 4, 5] c5 (by decide)
  have hz : z ≤ 5000 := by
   simp only [List.mem_cons, List.not_mem_nil, or_false] at zm
   omega
  obtain ⟨t, i8, h8, e9, ts, c8⟩ := text_some l i7 h7 z c7 hz
  refine ⟨s, m, (q : Int), a, b.set (0 : Int).toNat t, i8, h8, s4, by omega, ⟨by omega, by omega⟩, by omega, by simp; omega, ?_, c8⟩
  exact Ev.then e1 (Ev.then e2 (Ev.bind e3 (Ev.then e4 (Ev.bind e5 (Ev.then e6 (Ev.neg q0 (Ev.neg q1 (Ev.pos q2 (Ev.then e8 (Ev.bind e9 (Ev.pos (by show 0 < (b.length : Int); omega) (Ev.now _))))))))))))
 by_cases q3 : v = 3
 ·refine ⟨s, m, (q : Int), a, b.drop (1 : Int).toNat, i5, h5, s4, by omega, ⟨by omega, by omega⟩, by omega, by simp; omega, ?_, c5⟩
  exact Ev.then e1 (Ev.then e2 (Ev.bind e3 (Ev.then e4 (Ev.bind e5 (Ev.then e6 (Ev.neg q0 (Ev.neg q1 (Ev.neg q2 (Ev.pos q3 (Ev.pos (by show 1 ≤ (b.length : Int); omega) (Ev.now _)))))))))))
 ·refine ⟨s, m, (q : Int), a, b, i5, h5, s4, by omega, ⟨by omega, by omega⟩, by omega, by omega, ?_, c5⟩
  exact Ev.then e1 (Ev.then e2 (Ev.bind e3 (Ev.then e4 (Ev.bind e5 (Ev.then e6 (Ev.neg q0 (Ev.neg q1 (Ev.neg q2 (Ev.neg q3 (Ev.now _))))))))))
theorem hyper_so (l : List Int) (i h : Int) (hc : Cur l i) : ∃ (s m : ByteArray) (x : Int) (a b : List ByteArray) (r : ByteArray) (y : Int) (c d : List ByteArray) (i' h' : Int), InS x ∧ InS y ∧ a.length ≤ 10 ∧ b.length ≤ 2 ∧ c.length ≤ 10 ∧ d.length ≤ 2 ∧ r.size ≤ 10 ∧ Ev (fun k => spec_l17Hyper.f k l i h) (s, m, x, a, b, r, y, c, d, i', h') ∧ Cur l i' := by
 obtain ⟨s, i1, h1, e1, s4, c1⟩ := seed_some l i h hc
 obtain ⟨n, i2, h2, e2, n0, n1, c2⟩ := below_some l i1 h1 4 c1 (by decide)
 obtain ⟨m, i3, h3, e3, ms, c3⟩ := text_some l i2 h2 n c2 (by omega)
 obtain ⟨p, i4, h4, e4, p0, p1, c4⟩ := below_some l i3 h3 16 c3 (by decide)
 obtain ⟨q, rfl⟩ := Int.eq_ofNat_of_zero_le p0
 obtain ⟨a, b, r, c, d, a1, b1, r4, cc, dd, e5⟩ := hyperSign_so s q (by omega) m (by omega) (by omega)
 obtain ⟨v, i5, h5, e6, v0, v1, c5⟩ := below_some l i4 h4 12 c4 (by decide)
 have X : InS ((q / 4 : Nat) : Int) := ⟨by omega, by omega⟩
 have Y : InS ((q % 4 : Nat) : Int) := ⟨by omega, by omega⟩
 unfold spec_l17Hyper.f
 by_cases q0 : v = 0
 ·obtain ⟨z, i6, h6, e7, zm, c6⟩ := pickInt_some l i5 h5 [3, 4, 4] c5 (by decide)
  have hz : 0 ≤ z ∧ z ≤ 4 := by
   simp only [List.mem_cons, List.not_mem_nil, or_false] at zm
   omega
  obtain ⟨t, i7, h7, e8, ts, c7⟩ := text_some l i6 h6 z c6 (by omega)
  exact ⟨s, m, _, a, b, t, _, c, d, i7, h7, X, Y, by omega, by omega, by omega, by omega, by omega, Ev.then e1 (Ev.then e2 (Ev.bind e3 (Ev.then e4 (Ev.bind e5 (Ev.then e6 (Ev.pos q0 (Ev.then e7 (Ev.bind e8 (Ev.now _))))))))), c7⟩
 by_cases q1 : v = 1
 ·obtain ⟨s', m', x', a', b', i6, h6, _, _, x1, aa, bb, e7, c6⟩ := sig_so l i5 h5 c5
  exact ⟨s, m, _, a', b', r, _, c, d, i6, h6, x1, Y, by omega, by omega, by omega, by omega, by omega, Ev.then e1 (Ev.then e2 (Ev.bind e3 (Ev.then e4 (Ev.bind e5 (Ev.then e6 (Ev.neg q0 (Ev.pos q1 (Ev.bind e7 (Ev.now _))))))))), c6⟩
 by_cases q2 : v = 2
 ·obtain ⟨s', m', x', a', b', i6, h6, _, _, x1, aa, bb, e7, c6⟩ := sig_so l i5 h5 c5
  exact ⟨s, m, _, a, b, r, _, a', b', i6, h6, X, x1, by omega, by omega, by omega, by omega, by omega, Ev.then e1 (Ev.then e2 (Ev.bind e3 (Ev.then e4 (Ev.bind e5 (Ev.then e6 (Ev.neg q0 (Ev.neg q1 (Ev.pos q2 (Ev.bind e7 (Ev.now _)))))))))), c6⟩
 ·exact ⟨s, m, _, a, b, r, _, c, d, i5, h5, X, Y, by omega, by omega, by omega, by omega, by omega, Ev.then e1 (Ev.then e2 (Ev.bind e3 (Ev.then e4 (Ev.bind e5 (Ev.then e6 (Ev.neg q0 (Ev.neg q1 (Ev.neg q2 (Ev.now _))))))))), c5⟩
end Go.Proofs.Ytnckhligcdieaaa.Pure
namespace Go.Proofs.Ytnckhligcdieaaa.Pure
open Go.RowKit Go.Proofs.YtnckhligcdieaaaW.PrintWords Go.Proofs.YtnckhligcdieaaaW.PrintLast Go.Proofs.YtnckhligcdieaaaW.PrintMore Go.Proofs.Ytnckhligcdieaaa.P

def part4 (s : ByteArray) (i : Nat) : ByteArray := s.extract (1 + i * 4) (1 + (i + 1) * 4)
def onceP (s : ByteArray) (n : Nat) : List ByteArray := (List.range (min n 10)).map (part4 s)
def pathP (s : ByteArray) (n : Nat) : List ByteArray := (List.range (n - 10)).map fun i => part4 s (10 + i)
def readSigR (s : ByteArray) : Int × List ByteArray × List ByteArray × Bool :=
 if s.size = 49 ∧ bt s 0 < 4 then (bt s 0, onceP s 12, pathP s 12, true) else (0, [], [], false)
theorem onceP_lo (s : ByteArray) (i : Nat) (h : i < 10) : onceP s i ++ [part4 s i] = onceP s (i + 1) := by
 unfold onceP
 rw [Nat.min_eq_left (by omega), Nat.min_eq_left (by omega), List.range_succ, List.map_append]; rfl
theorem pathP_lo (s : ByteArray) (i : Nat) (h : i < 10) : pathP s i = pathP s (i + 1) := by
 unfold pathP
 rw [show i - 10 = 0 by omega, show i + 1 - 10 = 0 by omega]
theorem onceP_hi (s : ByteArray) (i : Nat) (h : 10 ≤ i) : onceP s i = onceP s (i + 1) := by
 unfold onceP
 rw [Nat.min_eq_right (by omega), Nat.min_eq_right (by omega)]
theorem pathP_hi (s : ByteArray) (i : Nat) (h : 10 ≤ i) : pathP s i ++ [part4 s i] = pathP s (i + 1) := by
 unfold pathP
 rw [show i + 1 - 10 = (i - 10) + 1 by omega, List.range_succ, List.map_append]
 simp only [List.map_cons, List.map_nil]
 rw [show 10 + (i - 10) = i by omega]
theorem readSigR_len (s : ByteArray) : (readSigR s).2.1.length ≤ 10 ∧ (readSigR s).2.2.1.length ≤ 2 := by
 unfold readSigR
 split <;> simp [onceP, pathP]

theorem at4 (i : Nat) (h : i < 1000) : wrap64 (1 + (wrap64 ((i : Int) * 4))) = ((1 + i * 4 : Nat) : Int) := by
 rw [w64 (x := (i : Int) * 4) (by omega) (by omega), w64 (x := 1 + (i : Int) * 4) (by omega) (by omega)]; omega
theorem at4s (i : Nat) (h : i < 999) : wrap64 (1 + (wrap64 ((wrap64 ((i : Int) + 1)) * 4))) = ((1 + (i + 1) * 4 : Nat) : Int) := by
 rw [w64s i (by omega), at4 (i + 1) (by omega)]

theorem spec_ReadSig_ev (s : ByteArray) : Ev (fun k => spec_ReadSig.f k s) (readSigR s) := by
 have bad : Ev (fun k => spec_ReadSig.j0 k s true) ((0 : Int), ([] : List ByteArray), ([] : List ByteArray), false) := by
  refine Ev.step (f := fun _ => some (0, [], [], false)) (fun k => ?_) (Ev.now _)
  simp only [spec_ReadSig.j0, if_true]
 have hr := bt_range s 0
 unfold spec_ReadSig.f readSigR
 by_cases hs : s.size = 49
 ·refine Ev.pos (by omega) (Ev.pos (by omega) ?_)
  rw [w64 (by omega) (by omega)]
  by_cases h4 : bt s 0 < 4
  ·rw [if_pos ⟨hs, h4⟩, decide_eq_false (by omega)]
   refine Ev.step (f := fun k => spec_ReadSig.l0 k s 0 (bt s 0) [] []) (fun k => ?_) ?_
   ·simp only [spec_ReadSig.j0]
    rw [if_neg (by decide), if_pos (by omega), w64 (by omega) (by omega)]
   ·refine Ev.up (g := fun i k => spec_ReadSig.l0 k s (i : Int) (bt s 0) (onceP s i) (pathP s i)) (r := (bt s 0, onceP s 12, pathP s 12, true)) 12 ?_ ?_ 0 (by omega)
    ·intro i hi h
     refine Ev.step (fun k => ?_) h
     simp only [spec_ReadSig.l0]
     rw [if_pos (by omega), at4 i (by omega), at4s i (by omega), if_pos (by omega), if_pos (by omega), if_pos (by omega), w64s i (by omega), Int.toNat_natCast, Int.toNat_natCast]
     by_cases h10 : i < 10
     ·rw [if_pos (by omega), if_pos (by simp [onceP]; omega), show s.extract (1 + i * 4) (1 + (i + 1) * 4) = part4 s i from rfl, onceP_lo s i h10, pathP_lo s i h10]
     ·rw [if_neg (by omega), if_pos (by simp [pathP]; omega), show s.extract (1 + i * 4) (1 + (i + 1) * 4) = part4 s i from rfl, pathP_hi s i (by omega), onceP_hi s i (by omega)]
    ·refine Ev.step (f := fun _ => some (bt s 0, onceP s 12, pathP s 12, true)) (fun k => ?_) (Ev.now _)
     simp only [spec_ReadSig.l0]
     rw [if_neg (by omega)]
  ·rw [if_neg (fun h => h4 h.2), decide_eq_true (by omega)]
   exact bad
 ·rw [if_neg (fun h => hs h.1)]
  exact Ev.neg (by omega) bad
theorem impl_ReadSig_ev (s : ByteArray) : Ev (fun k => impl_ReadSig.f k s) (readSigR s) := by
 have bad : Ev (fun k => impl_ReadSig.j0 k s true) ((0 : Int), ([] : List ByteArray), ([] : List ByteArray), false) := by
  refine Ev.step (f := fun _ => some (0, [], [], false)) (fun k => ?_) (Ev.now _)
  simp only [impl_ReadSig.j0, if_true]
 have hr := bt_range s 0
 unfold impl_ReadSig.f readSigR
 by_cases hs : s.size = 49
 ·refine Ev.pos (by omega) (Ev.pos (by omega) ?_)
  by_cases h4 : bt s 0 < 4
  ·rw [if_pos ⟨hs, h4⟩, decide_eq_false (by omega)]
   refine Ev.step (f := fun k => impl_ReadSig.l0 k s 0 (bt s 0) [] []) (fun k => ?_) ?_
   ·simp only [impl_ReadSig.j0]
    rw [if_neg (by decide), if_pos (by omega), w64 (by omega) (by omega)]
   ·refine Ev.up (g := fun i k => impl_ReadSig.l0 k s (i : Int) (bt s 0) (onceP s i) (pathP s i)) (r := (bt s 0, onceP s 12, pathP s 12, true)) 12 ?_ ?_ 0 (by omega)
    ·intro i hi h
     refine Ev.step (fun k => ?_) h
     simp only [impl_ReadSig.l0]
     rw [if_pos (by omega), at4 i (by omega), at4s i (by omega), if_pos (by omega), if_pos (by omega), if_pos (by omega), w64s i (by omega), Int.toNat_natCast, Int.toNat_natCast]
     by_cases h10 : i < 10
     ·rw [if_pos (by omega), if_pos (by simp [onceP]; omega), show s.extract (1 + i * 4) (1 + (i + 1) * 4) = part4 s i from rfl, onceP_lo s i h10, pathP_lo s i h10]
     ·rw [if_neg (by omega), if_pos (by simp [pathP]; omega), show s.extract (1 + i * 4) (1 + (i + 1) * 4) = part4 s i from rfl, pathP_hi s i (by omega), onceP_hi s i (by omega)]
    ·refine Ev.step (f := fun _ => some (bt s 0, onceP s 12, pathP s 12, true)) (fun k => ?_) (Ev.now _)
     simp only [impl_ReadSig.l0]
     rw [if_neg (by omega)]
  ·rw [if_neg (fun h => h4 h.2), decide_eq_true (by omega)]
   exact bad
 ·rw [if_neg (fun h => hs h.1)]
  exact Ev.neg (by omega) bad
end Go.Proofs.Ytnckhligcdieaaa.Pure
namespace Go.Proofs.Ytnckhligcdieaaa.Pure
set_option linter.unusedVariables false
open Go.RowKit Go.Proofs.YtnckhligcdieaaaW.PrintWords Go.Proofs.YtnckhligcdieaaaW.PrintLast Go.Proofs.YtnckhligcdieaaaW.PrintMore Go.Proofs.Ytnckhligcdieaaa.P

theorem dl_extract (s : ByteArray) (i j : Nat) : (s.extract i j).data.toList = (s.data.toList.drop i).take (j - i) := by
 rw [ByteArray.data_extract, Array.toList_extract]
theorem dl_append (s t : ByteArray) : (s ++ t).data.toList = s.data.toList ++ t.data.toList := by
 rw [ByteArray.data_append, Array.toList_append]
theorem dl_len (s : ByteArray) : s.data.toList.length = s.size := Array.length_toList
theorem dl_catL (l : List ByteArray) : ∀ t : ByteArray, (catL t l).data.toList = t.data.toList ++ (l.map (·.data.toList)).flatten := by
 induction l with
 | nil => intro t; simp [catL]
 | cons a l ih =>
  intro t
  have h : catL t (a :: l) = catL (t ++ a) l := rfl
  rw [h, ih, dl_append, List.map_cons, List.flatten_cons, List.append_assoc]
theorem flat_take {α : Type} (L : List α) (n : Nat) : ((List.range n).map fun j => (L.drop (4 * j)).take 4).flatten = L.take (4 * n) := by
 induction n with
 | zero => simp
 | succ n ih =>
  rw [List.range_succ, List.map_append, List.flatten_append, ih]
  simp only [List.map_cons, List.map_nil, List.flatten_cons, List.flatten_nil, List.append_nil]
  rw [show 4 * (n + 1) = 4 * n + 4 by omega, List.take_add]
theorem byteV_dl (n : Int) : (byteV n).data.toList = [UInt8.ofNat (n % 256).toNat] := by simp [byteV, strOfNums]
theorem bt_dl (s : ByteArray) (h : 0 < s.size) : s.data.toList.take 1 = [UInt8.ofNat (bt s 0).toNat] := by
 have hb := bt_at s 0 (by simpa using h)
 have hl := dl_len s
 cases hd : s.data.toList with
 | nil => rw [hd] at hl; simp at hl; omega
 | cons x r =>
  have hx : s[0]'h = x := by
   have : s[0]'h = s.data.toList[0]'(by rw [hl]; exact h) := by simp [ByteArray.getElem_eq_getElem_data]
   rw [this]
   simp [hd]
  simp only [Int.toNat_zero] at hb
  rw [← hb, hx]
  simp
theorem catL_append (t : ByteArray) (a b : List ByteArray) : catL (catL t a) b = catL t (a ++ b) := by simp [catL]
theorem part4_size (s : ByteArray) (hs : s.size = 49) (j : Nat) (hj : j < 12) : (part4 s j).size = 4 := by
 unfold part4
 rw [ByteArray.size_extract]
 omega
theorem onceP_mem {s : ByteArray} (hs : s.size = 49) : ∀ u ∈ onceP s 12, u.size = 4 := by
 intro u hu
 unfold onceP at hu
 obtain ⟨j, hj, rfl⟩ := List.mem_map.mp hu
 exact part4_size s hs j (by simp at hj; omega)
theorem pathP_mem {s : ByteArray} (hs : s.size = 49) : ∀ u ∈ pathP s 12, u.size = 4 := by
 intro u hu
 unfold pathP at hu
 obtain ⟨j, hj, rfl⟩ := List.mem_map.mp hu
 exact part4_size s hs (10 + j) (by simp at hj; omega)
theorem read_pos {s : ByteArray} (h : (readSigR s).2.2.2 = true) : s.size = 49 ∧ bt s 0 < 4 ∧ readSigR s = (bt s 0, onceP s 12, pathP s 12, true) := by
 unfold readSigR at h ⊢
 split at h
 ·rename_i q
  exact ⟨q.1, q.2, if_pos q⟩
 ·exact absurd h (by decide)
/-- What is read is a signature of the right form, and is written so. -/
theorem text_read {s : ByteArray} (h : (readSigR s).2.2.2 = true) : sigOk (readSigR s).1 (readSigR s).2.1 (readSigR s).2.2.1 = true ∧ sigTextR (readSigR s).1 (readSigR s).2.1 (readSigR s).2.2.1 = (s, true) := by
 obtain ⟨hs, hb, e⟩ := read_pos h
 have hr := bt_range s 0
 have ok : sigOk (bt s 0) (onceP s 12) (pathP s 12) = true := by
  unfold sigOk
  have q1 : (onceP s 12).all four = true := List.all_eq_true.mpr fun u hu => by simpa [four] using onceP_mem hs u hu
  have q2 : (pathP s 12).all four = true := List.all_eq_true.mpr fun u hu => by simpa [four] using pathP_mem hs u hu
  rw [q1, q2, decide_eq_true (by omega), decide_eq_true (show (onceP s 12).length = 10 by simp [onceP]), decide_eq_true (show (pathP s 12).length = 2 by simp [pathP])]
  rfl
 rw [e]
 refine ⟨ok, ?_⟩
 unfold sigTextR
 rw [if_pos ok, catL_append]
 refine Prod.ext ?_ rfl
 apply bytes_ext
 show (catL (byteV (bt s 0)) (onceP s 12 ++ pathP s 12)).data.toList = s.data.toList
 have hl : onceP s 12 ++ pathP s 12 = (List.range 12).map (part4 s) := rfl
 rw [hl, dl_catL, byteV_dl, show bt s 0 % 256 = bt s 0 by omega, ← bt_dl s (by omega), List.map_map]
 have hc : ((List.range 12).map ((fun u : ByteArray => u.data.toList) ∘ part4 s)) = ((List.range 12).map fun j => ((s.data.toList.drop 1).drop (4 * j)).take 4) := by
  apply List.map_congr_left
  intro j hj
  simp only [Function.comp, part4]
  rw [dl_extract, List.drop_drop, show 1 + (j + 1) * 4 - (1 + j * 4) = 4 by omega, show 1 + j * 4 = 1 + 4 * j by omega]
 have ht : List.take (4 * 12) (List.drop 1 s.data.toList) = List.drop 1 s.data.toList := List.take_of_length_le (by rw [List.length_drop, dl_len]; omega)
 rw [hc, flat_take, ht, List.take_append_drop]
end Go.Proofs.Ytnckhligcdieaaa.Pure
namespace Go.Proofs.Ytnckhligcdieaaa.Pure
open Go.RowKit Go.Proofs.YtnckhligcdieaaaW.PrintWords Go.Proofs.YtnckhligcdieaaaW.PrintLast Go.Proofs.YtnckhligcdieaaaW.PrintMore Go.Proofs.Ytnckhligcdieaaa.P

def hyperIndexR (x : Int) (a b : List ByteArray) (y : Int) (c d : List ByteArray) : Int := if sigOk x a b = true then if sigOk y c d = true then 4 * x + y else -1 else -1
theorem spec_HyperIndex_ev (x : Int) (a b : List ByteArray) (s : ByteArray) (y : Int) (c d : List ByteArray) : Ev (fun k => spec_HyperIndex.f k x a b s y c d) (hyperIndexR x a b y c d) := by
 unfold spec_HyperIndex.f hyperIndexR
 refine Ev.bind (spec_SigOk_ev x a b) ?_
 by_cases h : sigOk x a b = true
 ·rw [if_pos h]
  refine Ev.pos h (Ev.bind (spec_SigOk_ev y c d) ?_)
  by_cases h2 : sigOk y c d = true
  ·have hx := (sigOk_all h).1
   have hy := (sigOk_all h2).1
   have e : wrap64 (wrap64 (4 * x) + y) = 4 * x + y := by rw [w64 (x := 4 * x) (by omega) (by omega), w64 (by omega) (by omega)]
   rw [e]
   simpa only [if_pos h2] using Ev.now (4 * x + y)
  ·simpa only [if_neg h2] using Ev.now (-1 : Int)
 ·rw [if_neg h]
  exact Ev.neg h (Ev.now _)
theorem impl_HyperIndex_ev (x : Int) (a b : List ByteArray) (s : ByteArray) (y : Int) (c d : List ByteArray) (ha : a.length ≤ 35184372088832) (hb : b.length ≤ 35184372088832) (hc : c.length ≤ 35184372088832) (hd : d.length ≤ 35184372088832) :
  Ev (fun k => impl_HyperIndex.f k x a b s y c d) (hyperIndexR x a b y c d) := by
 unfold impl_HyperIndex.f hyperIndexR
 refine Ev.bind (impl_SigOk_ev x a b ha hb) ?_
 by_cases h : sigOk x a b = true
 ·rw [if_pos h]
  refine Ev.pos h (Ev.bind (impl_SigOk_ev y c d hc hd) ?_)
  by_cases h2 : sigOk y c d = true
  ·have hx := (sigOk_all h).1
   have hy := (sigOk_all h2).1
   have e : wrap64 (wrap64 (4 * x) + y) = 4 * x + y := by rw [w64 (x := 4 * x) (by omega) (by omega), w64 (by omega) (by omega)]
   rw [e]
   simpa only [if_pos h2] using Ev.now (4 * x + y)
  ·simpa only [if_neg h2] using Ev.now (-1 : Int)
 ·rw [if_neg h]
  exact Ev.neg h (Ev.now _)
theorem sigTextR_ok {x : Int} {a b : List ByteArray} (h : sigOk x a b = true) : (sigTextR x a b).2 = true ∧ (sigTextR x a b).1.size = 49 := by
 obtain ⟨_, ha, ha4, hb, hb4⟩ := sigOk_all h
 unfold sigTextR
 rw [if_pos h]
 refine ⟨rfl, ?_⟩
 show (catL (catL (byteV x) a) b).size = 49
 rw [catL_size _ b 4 hb4, catL_size _ a 4 ha4, byteV_size, ha, hb]
theorem sigTextR_no {x : Int} {a b : List ByteArray} (h : ¬ sigOk x a b = true) : (sigTextR x a b).2 = false := by
 unfold sigTextR
 rw [if_neg h]
def hyperTextR (x : Int) (a b : List ByteArray) (s : ByteArray) (y : Int) (c d : List ByteArray) : ByteArray × Bool :=
 if (sigTextR x a b).2 = true then if (sigTextR y c d).2 = true then if (s.size : Int) = 4 then (((sigTextR x a b).1 ++ s) ++ (sigTextR y c d).1, true) else (⟨#[]⟩, false) else (⟨#[]⟩, false) else (⟨#[]⟩, false)
theorem sigTextR_size {x : Int} {a b : List ByteArray} (h : (sigTextR x a b).2 = true) : (sigTextR x a b).1.size = 49 := by
 by_cases h2 : sigOk x a b = true
 ·exact (sigTextR_ok h2).2
 ·rw [sigTextR_no h2] at h
  exact absurd h (by decide)
theorem hyper_join (A B : ByteArray × Bool) (s : ByteArray) (hA : A.2 = true → A.1.size = 49) (hB : B.2 = true → B.1.size = 49) :
  (if A.2 = true then (if B.2 = true then (if (s.size : Int) = 4 then (if A.1.size + s.size ≤ 9223372036854775807 then (if (A.1 ++ s).size + B.1.size ≤ 9223372036854775807 then (some ((A.1 ++ s) ++ B.1, true)) else (none)) else (none)) else (some ((⟨#[]⟩ : ByteArray), false))) else (some ((⟨#[]⟩ : ByteArray), false))) else (some ((⟨#[]⟩ : ByteArray), false))) =
  some (if A.2 = true then if B.2 = true then if (s.size : Int) = 4 then ((A.1 ++ s) ++ B.1, true) else (⟨#[]⟩, false) else (⟨#[]⟩, false) else (⟨#[]⟩, false)) := by
 by_cases p : A.2 = true
 ·rw [if_pos p, if_pos p]
  by_cases q : B.2 = true
  ·rw [if_pos q, if_pos q]
   by_cases r : (s.size : Int) = 4
   ·have e1 := hA p
    have e2 := hB q
    rw [if_pos r, if_pos r, if_pos (by omega), if_pos (by rw [ByteArray.size_append]; omega)]
   ·rw [if_neg r, if_neg r]
  ·rw [if_neg q, if_neg q]
 ·rw [if_neg p, if_neg p]
theorem spec_HyperText_ev (x : Int) (a b : List ByteArray) (s : ByteArray) (y : Int) (c d : List ByteArray) (h1 : -9223372036854775808 ≤ x) (h2 : x ≤ 9223372036854775807) (h3 : -9223372036854775808 ≤ y) (h4 : y ≤ 9223372036854775807) :
  Ev (fun k => spec_HyperText.f k x a b s y c d) (hyperTextR x a b s y c d) := by
 unfold spec_HyperText.f hyperTextR
 exact Ev.bind (spec_SigText_ev x a b h1 h2) (Ev.bind (spec_SigText_ev y c d h3 h4) (Ev.const (hyper_join _ _ s sigTextR_size sigTextR_size)))
theorem impl_HyperText_ev (x : Int) (a b : List ByteArray) (s : ByteArray) (y : Int) (c d : List ByteArray) (ha : a.length ≤ 35184372088832) (hb : b.length ≤ 35184372088832) (hc : c.length ≤ 35184372088832) (hd : d.length ≤ 35184372088832) :
  Ev (fun k => impl_HyperText.f k x a b s y c d) (hyperTextR x a b s y c d) := by
 unfold impl_HyperText.f hyperTextR
 exact Ev.bind (impl_SigText_ev x a b ha hb) (Ev.bind (impl_SigText_ev y c d hc hd) (Ev.const (hyper_join _ _ s sigTextR_size sigTextR_size)))
end Go.Proofs.Ytnckhligcdieaaa.Pure
namespace Go.Proofs.Ytnckhligcdieaaa.Pure
open Go.RowKit Go.Proofs.YtnckhligcdieaaaW.PrintWords Go.Proofs.YtnckhligcdieaaaW.PrintLast Go.Proofs.YtnckhligcdieaaaW.PrintMore Go.Proofs.Ytnckhligcdieaaa.P

def readHyperR (s : ByteArray) : Int × List ByteArray × List ByteArray × ByteArray × Int × List ByteArray × List ByteArray × Bool :=
 if s.size = 102 ∧ (readSigR (s.extract 0 49)).2.2.2 = true ∧ (readSigR (s.extract 53 102)).2.2.2 = true then
  ((readSigR (s.extract 0 49)).1, (readSigR (s.extract 0 49)).2.1, (readSigR (s.extract 0 49)).2.2.1, s.extract 49 53, (readSigR (s.extract 53 102)).1, (readSigR (s.extract 53 102)).2.1, (readSigR (s.extract 53 102)).2.2.1, true)
 else (0, [], [], ⟨#[]⟩, 0, [], [], false)
theorem readHyperR_len (s : ByteArray) : (readHyperR s).2.1.length ≤ 1000 ∧ (readHyperR s).2.2.1.length ≤ 1000 ∧ (readHyperR s).2.2.2.2.2.1.length ≤ 1000 ∧ (readHyperR s).2.2.2.2.2.2.1.length ≤ 1000 := by
 have h1 := readSigR_len (s.extract 0 49)
 have h2 := readSigR_len (s.extract 53 102)
 unfold readHyperR
 split
 ·exact ⟨Nat.le_trans h1.1 (by omega), Nat.le_trans h1.2 (by omega), Nat.le_trans h2.1 (by omega), Nat.le_trans h2.2 (by omega)⟩
 ·exact ⟨by simp, by simp, by simp, by simp⟩
theorem readHyperR_pos (s : ByteArray) (h0 : s.size = 102) (h1 : (readSigR (s.extract 0 49)).2.2.2 = true) (h2 : (readSigR (s.extract 53 102)).2.2.2 = true) :
  readHyperR s = ((readSigR (s.extract 0 49)).1, (readSigR (s.extract 0 49)).2.1, (readSigR (s.extract 0 49)).2.2.1, s.extract 49 53, (readSigR (s.extract 53 102)).1, (readSigR (s.extract 53 102)).2.1, (readSigR (s.extract 53 102)).2.2.1, true) := if_pos ⟨h0, h1, h2⟩
theorem readHyperR_neg (s : ByteArray) (h : ¬ (s.size = 102 ∧ (readSigR (s.extract 0 49)).2.2.2 = true ∧ (readSigR (s.extract 53 102)).2.2.2 = true)) : readHyperR s = (0, [], [], ⟨#[]⟩, 0, [], [], false) := if_neg h
theorem spec_ReadHyper_ev (s : ByteArray) : Ev (fun k => spec_ReadHyper.f k s) (readHyperR s) := by
 unfold spec_ReadHyper.f
 by_cases hs : s.size = 102
 ·refine Ev.pos (by omega) (Ev.pos (by omega) (Ev.pos (by omega) (Ev.bind (spec_ReadSig_ev _) (Ev.pos (by omega) ?_))))
  have e53 : s.extract 53 s.size = s.extract 53 102 := by rw [hs]
  rw [e53]
  refine Ev.bind (spec_ReadSig_ev _) ?_
  by_cases h1 : (readSigR (s.extract 0 49)).2.2.2 = true
  ·refine Ev.pos h1 ?_
   by_cases h2 : (readSigR (s.extract 53 102)).2.2.2 = true
   ·refine Ev.pos h2 (Ev.pos (by omega) ?_)
    rw [readHyperR_pos s hs h1 h2]
    exact Ev.now _
   ·refine Ev.neg h2 ?_
    rw [readHyperR_neg s (fun h => h2 h.2.2)]
    exact Ev.now _
  ·refine Ev.neg h1 ?_
   rw [readHyperR_neg s (fun h => h1 h.2.1)]
   exact Ev.now _
 ·refine Ev.neg (by omega) ?_
  rw [readHyperR_neg s (fun h => hs h.1)]
  exact Ev.now _
theorem impl_ReadHyper_ev (s : ByteArray) : Ev (fun k => impl_ReadHyper.f k s) (readHyperR s) := by
 unfold impl_ReadHyper.f
 by_cases hs : s.size = 102
 ·refine Ev.pos (by omega) (Ev.pos (by omega) (Ev.pos (by omega) (Ev.bind (impl_ReadSig_ev _) (Ev.pos (by omega) ?_))))
  have e53 : s.extract 53 s.size = s.extract 53 102 := by rw [hs]
  rw [e53]
  refine Ev.bind (impl_ReadSig_ev _) ?_
  by_cases h1 : (readSigR (s.extract 0 49)).2.2.2 = true
  ·refine Ev.pos h1 ?_
   by_cases h2 : (readSigR (s.extract 53 102)).2.2.2 = true
   ·refine Ev.pos h2 (Ev.pos (by omega) ?_)
    rw [readHyperR_pos s hs h1 h2]
    exact Ev.now _
   ·refine Ev.neg h2 ?_
    rw [readHyperR_neg s (fun h => h2 h.2.2)]
    exact Ev.now _
  ·refine Ev.neg h1 ?_
   rw [readHyperR_neg s (fun h => h1 h.2.1)]
   exact Ev.now _
 ·refine Ev.neg (by omega) ?_
  rw [readHyperR_neg s (fun h => hs h.1)]
  exact Ev.now _
end Go.Proofs.Ytnckhligcdieaaa.Pure
