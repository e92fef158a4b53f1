/- Plain laws that the law FnSamples rests on. -/
import Derived.Test.YtnckhligcdieaaaPx0
import Derived.Test.YtnckhligcdieaaaV0
import Derived.Test.YtnckhligcdieaaaHB2
import Derived.Test.YtnckhligcdieaaaHB3
import Derived.Laws.BitsAllLaws
import Derived.Laws.BitsLemmas
import Derived.Test.YtnckhligcdieaaaHB4
import Derived.Test.YtnckhligcdieaaaHB5
import Derived.Test.YtnckhligcdieaaaHB6
import Derived.Test.YtnckhligcdieaaaPx1
import Derived.Test.YtnckhligcdieaaaPx2
import Derived.Test.YtnckhligcdieaaaPx3
import Derived.Test.YtnckhligcdieaaaPx5
import Derived.Test.YtnckhligcdieaaaPx6
import Derived.Test.YtnckhligcdieaaaPx7
import Derived.Test.YtnckhligcdieaaaPx16
import Derived.Test.YtnckhligcdieaaaPx17
import Derived.Test.YtnckhligcdieaaaPx18
import Derived.Test.YtnckhligcdieaaaPx19
import Derived.Test.YtnckhligcdieaaaPx20
import Derived.Test.YtnckhligcdieaaaPx22
import Derived.Test.YtnckhligcdieaaaPx23
import Derived.Test.YtnckhligcdieaaaPx25
import Derived.Test.YtnckhligcdieaaaHB2
import Derived.Test.YtnckhligcdieaaaHB3
import Derived.Test.YtnckhligcdieaaaHB1
import Derived.Test.YtnckhligcdieaaaHB5
import Derived.Test.YtnckhligcdieaaaHB4
import Derived.Test.YtnckhligcdieaaaHB6
namespace Go.Proofs.Ytnckhligcdieaaa.Pure
open Go.RowKit Go.Proofs.YtnckhligcdieaaaW.PrintWords Go.Proofs.YtnckhligcdieaaaW.PrintLast Go.Proofs.YtnckhligcdieaaaW.PrintMore

theorem w64 {x : Int} (h1 : -9223372036854775808 ≤ x) (h2 : x ≤ 9223372036854775807) : wrap64 x = x := by unfold wrap64; omega
theorem w64s (n : Nat) (h : n < 9223372036854775807) : wrap64 ((n : Int) + 1) = ((n + 1 : Nat) : Int) := by rw [w64 (by omega) (by omega)]; rfl
theorem Ev.pos {α : Type} {c : Prop} [Decidable c] {f g : Nat → Option α} {r : α} (hc : c) (h : Ev f r) : Ev (fun k => if c then f k else g k) r := by
  simpa only [if_pos hc] using h
theorem Ev.neg {α : Type} {c : Prop} [Decidable c] {f g : Nat → Option α} {r : α} (hc : ¬ c) (h : Ev g r) : Ev (fun k => if c then f k else g k) r := by
  simpa only [if_neg hc] using h
theorem Ev.then {α β : Type} {o : Option α} {f : Nat → α → Option β} {a : α} {r : β} (h : o = some a) (k : Ev (fun n => f n a) r) : Ev (fun n => o.bind (f n)) r := by
  subst h; exact k
/-- A loop that goes up: what it answers at the end, it answers from the start. -/
theorem Ev.up {α : Type} {g : Nat → Nat → Option α} {r : α} (n : Nat) (hs : ∀ i, i < n → Ev (g (i + 1)) r → Ev (g i) r) (he : Ev (g n) r) (i : Nat) (hi : i ≤ n) : Ev (g i) r := by
  obtain ⟨d, rfl⟩ : ∃ d, n = i + d := ⟨n - i, by omega⟩
  induction d generalizing i with
  | zero => exact he
  | succ d ih =>
    refine hs i (by omega) (ih (i + 1) ?_ ?_ (by omega))
    · intro j hj h
      exact hs j (by omega) h
    · rw [show i + 1 + d = i + (d + 1) by omega]; exact he
/-- A loop that may stop early. -/
theorem Ev.upTo {α : Type} {g : Nat → Nat → Option α} {r : Nat → α} (n : Nat) (hs : ∀ i, i < n → Ev (g (i + 1)) (r (i + 1)) → Ev (g i) (r i)) (he : Ev (g n) (r n)) (i : Nat) (hi : i ≤ n) : Ev (g i) (r i) := by
  obtain ⟨d, rfl⟩ : ∃ d, n = i + d := ⟨n - i, by omega⟩
  induction d generalizing i with
  | zero => exact he
  | succ d ih =>
    refine hs i (by omega) (ih (i + 1) ?_ ?_ (by omega))
    · intro j hj h
      exact hs j (by omega) h
    · rw [show i + 1 + d = i + (d + 1) by omega]; exact he

theorem rd_nat (l : List Int) (i : Nat) : rd l (i : Int) = l.getD i 0 := by simp [rd]
theorem rd_get (l : List Int) (i : Nat) (h : i < l.length) : rd l (i : Int) = l[i] := by simp [rd, List.getD_eq_getElem?_getD, List.getElem?_eq_getElem h]
theorem rd_int (l : List Int) (x : Int) (h0 : 0 ≤ x) (h : x < l.length) : rd l x = l[x.toNat]'(by omega) := by
  simp [rd, List.getD_eq_getElem?_getD, List.getElem?_eq_getElem (show x.toNat < l.length by omega)]
theorem rd_mem (l : List Int) (x : Int) (h0 : 0 ≤ x) (h : x < l.length) : rd l x ∈ l := by rw [rd_int l x h0 h]; exact List.getElem_mem _
theorem drop_all {α : Type} (p : α → Bool) (l : List α) (i : Nat) (h : i < l.length) : (l.drop i).all p = (p l[i] && (l.drop (i + 1)).all p) := by
  rw [List.drop_eq_getElem_cons h, List.all_cons]
theorem take_snoc {α : Type} (l : List α) (i : Nat) (h : i < l.length) : l.take i ++ [l[i]] = l.take (i + 1) := by simp
theorem some_in (a b c : Int) : (if a ≥ b then (some (decide (a ≤ c))) else (some false)) = some (decide (b ≤ a ∧ a ≤ c)) := by
  by_cases h : a ≥ b
  · rw [if_pos h]; congr 1; rw [decide_eq_decide]; constructor
    · intro h2; exact ⟨h, h2⟩
    · intro h2; exact h2.2
  · rw [if_neg h]; congr 1; symm; rw [decide_eq_false_iff_not]; intro h2; exact h h2.1
theorem set_fill {α : Type} (l : List α) (d : α) (i : Nat) (h : i < l.length) : (l.take i ++ List.replicate (l.length - i) d).set i l[i] = l.take (i + 1) ++ List.replicate (l.length - (i + 1)) d := by
  apply List.ext_getElem
  · simp; omega
  · intro j h1 h2
    simp only [List.getElem_set, List.getElem_append, List.length_take, List.getElem_take, List.getElem_replicate]
    split
    · subst_vars
      rw [dif_pos (by omega)]
    · by_cases hj : j < i
      · rw [dif_pos (by omega), dif_pos (by omega)]
      · rw [dif_neg (by omega), dif_neg (by omega)]


theorem strOfNums_get (xs : List Int) (i : Nat) (h : i < (strOfNums xs).size) : (strOfNums xs)[i] = UInt8.ofNat (xs[i]'(by simpa [strOfNums_size] using h)).toNat := by
  simp [strOfNums, ByteArray.getElem_eq_getElem_data]
theorem bytes_ext {s t : ByteArray} (h : s.data.toList = t.data.toList) : s = t := by
  cases s; cases t; congr 1; exact Array.toList_inj.mp h
def EqQ (x y : Int) : Prop := x % 3329 = y % 3329
theorem EqQ.refl (x : Int) : EqQ x x := rfl
theorem EqQ.of {x y : Int} (h : x = y) : EqQ x y := by rw [h]; exact EqQ.refl y
theorem EqQ.symm {x y : Int} (h : EqQ x y) : EqQ y x := Eq.symm h
theorem EqQ.trans {x y z : Int} (h : EqQ x y) (k : EqQ y z) : EqQ x z := Eq.trans h k
theorem EqQ.mod (x : Int) : EqQ (x % 3329) x := Int.emod_emod_of_dvd _ (Int.dvd_refl _)
theorem EqQ.neg {x y : Int} (h : EqQ x y) : EqQ (-x) (-y) := by unfold EqQ at *; omega
end Go.Proofs.Ytnckhligcdieaaa.Pure
namespace Go.Proofs.Ytnckhligcdieaaa.Pure
open Go.RowKit Go.Proofs.YtnckhligcdieaaaW.PrintWords Go.Proofs.YtnckhligcdieaaaW.PrintLast Go.Proofs.YtnckhligcdieaaaW.PrintMore Go.Proofs.Ytnckhligcdieaaa.P Go.Proofs.Ytnckhligcdieaaa.Kit
set_option linter.unusedVariables false
set_option linter.unusedSimpArgs false

def W64 (x : Int) : Prop := 0 ≤ x ∧ x < 18446744073709551616
theorem wrapU (x : Int) : IntKind.u64.wrap x = x % 18446744073709551616 := IntKind.wrap_u64 x
theorem W64.mod (x : Int) : W64 (x % 18446744073709551616) := by unfold W64; omega
theorem W64.wrap (x : Int) : W64 (IntKind.u64.wrap x) := by rw [wrapU]; exact W64.mod _
theorem W64.xor (a b : Int) : W64 (Go.bits .xor .u64 a b) := W64.wrap _
theorem W64.or (a b : Int) : W64 (Go.bits .or .u64 a b) := W64.wrap _
theorem wraps64 : ∀ n : Int, 0 ≤ n → n < 2 ^ 64 → IntKind.u64.wrap n = n := fun n h0 h1 => by rw [wrapU]; omega
theorem or64 (i : Nat) (x y : Int) (hx : W64 x) (hi : x % 2 ^ i = 0) (hy : W64 y) (hyi : y < 2 ^ i) : Go.bits .or .u64 x y = x + y :=
  bits_join .u64 64 (by decide) wraps64 i x y hx.1 hi (by have := hx.2; omega) hy.1 hyi (by have := hy.2; omega)
theorem or64' (i : Nat) (x y : Int) (hx : W64 x) (hxi : x < 2 ^ i) (hy : W64 y) (hi : y % 2 ^ i = 0) : Go.bits .or .u64 x y = x + y := by
  have h : Go.bits .or .u64 x y = Go.bits .or .u64 y x := by
    show IntKind.u64.wrap (((BitVec.ofInt 64 x ||| BitVec.ofInt 64 y).toNat : Nat) : Int) = IntKind.u64.wrap (((BitVec.ofInt 64 y ||| BitVec.ofInt 64 x).toNat : Nat) : Int)
    rw [BitVec.or_comm]
  rw [h, or64 i y x hy hi hx hxi, Int.add_comm]
theorem xor64 (a b : Nat) (ha : a < 2 ^ 64) (hb : b < 2 ^ 64) : Go.bits .xor .u64 (a : Int) (b : Int) = ((a ^^^ b : Nat) : Int) := by
  show IntKind.u64.wrap (((BitVec.ofInt 64 (a : Int) ^^^ BitVec.ofInt 64 (b : Int)).toNat : Nat) : Int) = _
  have e1 : (BitVec.ofInt 64 (a : Int) ^^^ BitVec.ofInt 64 (b : Int)).toNat = a ^^^ b := by
    rw [BitVec.toNat_xor, BitVec.toNat_ofInt, BitVec.toNat_ofInt]
    congr 1 <;> omega
  rw [e1]
  have := Nat.xor_lt_two_pow ha hb
  exact wraps64 _ (by omega) (by omega)
theorem xor_zero (x : Int) (h : W64 x) : Go.bits .xor .u64 0 x = x := by
  obtain ⟨n, rfl⟩ := Int.eq_ofNat_of_zero_le h.1
  have := xor64 0 n (by omega) (by have := h.2; omega)
  rw [Nat.zero_xor] at this
  exact this
theorem not64_eq (e : Int) (h : W64 e) : IntKind.u64.wrap (18446744073709551615 - e) = not64 e := by
  obtain ⟨n, rfl⟩ := Int.eq_ofNat_of_zero_le h.1
  have hn : n < 18446744073709551616 := by have := h.2; omega
  unfold not64
  show _ = IntKind.u64.wrap (((BitVec.ofInt 64 18446744073709551615 ^^^ BitVec.ofInt 64 (n : Int)).toNat : Nat) : Int)
  have h1 : (BitVec.ofInt 64 18446744073709551615 ^^^ BitVec.ofInt 64 (n : Int)).toNat = 18446744073709551615 - n := by
    have e1 : BitVec.ofInt 64 18446744073709551615 = BitVec.allOnes 64 := by decide
    rw [e1, BitVec.allOnes_xor, BitVec.toNat_not, BitVec.toNat_ofInt]
    omega
  rw [h1, wrapU, wrapU]
  omega
theorem rotl_w (x : Int) (n : Nat) : W64 (rotl x n) := W64.or _ _
theorem rotl_zero (x : Int) (h : W64 x) : rotl x 0 = x := by
  unfold rotl
  have h1 := h.1
  have h2 := h.2
  have e : x / 2 ^ (64 - 0) = 0 := Int.ediv_eq_zero_of_lt h1 (by simpa using h2)
  rw [e, wrapU, show x * 2 ^ 0 % 18446744073709551616 = x by omega, or64 0 x 0 h (by omega) ⟨by decide, by decide⟩ (by decide)]
  omega
/-- A word turned left, by doubling. -/
theorem left_loop (x : Int) (n : Nat) (hn : n < 64) (r : Int) (h : Ev (fun k => spec_l07Left.l0 k x (n : Int) ((2 ^ n : Nat) : Int) (n : Int)) r) : Ev (fun k => spec_l07Left.f k x (n : Int)) r := by
  refine Ev.up (g := fun i k => spec_l07Left.l0 k x (n : Int) ((2 ^ i : Nat) : Int) (i : Int)) n ?_ h 0 (Nat.zero_le _)
  intro i hi hh
  refine Ev.step (fun k => ?_) hh
  have hp : 2 ^ (i + 1) < 2 ^ 64 := Nat.pow_lt_pow_right (by decide) (by omega)
  simp only [spec_l07Left.l0]
  rw [if_pos (by omega), w64s i (by omega), wrapU]
  congr 1
  rw [Nat.pow_succ] at hp ⊢
  omega
theorem left_ev (x : Int) (n : Nat) (h : W64 x) (hn : n < 64) : Ev (fun k => spec_l07Left.f k x (n : Int)) (rotl x n) := by
  refine left_loop x n hn _ ?_
  refine Ev.step (f := fun _ => some (rotl x n)) (fun k => ?_) (Ev.now _)
  simp only [spec_l07Left.l0]
  rw [if_neg (by omega)]
  by_cases h0 : n = 0
  · subst h0
    rw [if_pos (by rfl), rotl_zero x h]
  rw [if_neg (by omega)]
  obtain ⟨A, hA⟩ : ∃ A : Nat, A = 2 ^ n := ⟨_, rfl⟩
  obtain ⟨B, hB⟩ : ∃ B : Nat, B = 2 ^ (64 - n) := ⟨_, rfl⟩
  obtain ⟨C, hC⟩ : ∃ C : Nat, C = 2 ^ (63 - n) := ⟨_, rfl⟩
  have hA0 : 0 < A := by rw [hA]; exact Nat.pow_pos (by decide)
  have hC0 : 0 < C := by rw [hC]; exact Nat.pow_pos (by decide)
  have hCA : C * A = 9223372036854775808 := by rw [hA, hC, ← Nat.pow_add, show 63 - n + n = 63 by omega]
  have hBC : B = C * 2 := by rw [hB, hC, show 64 - n = 63 - n + 1 by omega, Nat.pow_succ]
  have hA2 : A < 18446744073709551616 := by have h4 : 2 ^ n < 2 ^ 64 := Nat.pow_lt_pow_right (by decide) hn; omega
  have hC2 : C ≤ 4611686018427387904 := by
    have : C ≤ 2 ^ 62 := by rw [hC]; exact Nat.pow_le_pow_right (by decide) (by omega)
    omega
  rw [← hA, if_neg (by omega)]
  have e1 : Int.tdiv (9223372036854775808 : Int) (A : Int) = (C : Int) := by
    rw [Int.tdiv_eq_ediv_of_nonneg (by decide), show (9223372036854775808 : Int) = ((C * A : Nat) : Int) by rw [hCA]; rfl]
    rw [← Int.natCast_ediv, Nat.mul_div_cancel _ hA0]
  have e2 : IntKind.u64.wrap ((IntKind.u64.wrap (C : Int)) * 2) = (B : Int) := by rw [wrapU, wrapU]; omega
  rw [e1, e2, if_neg (by omega)]
  have hx1 := h.1
  have hx2 := h.2
  rw [Int.tdiv_eq_ediv_of_nonneg hx1]
  obtain ⟨m, rfl⟩ := Int.eq_ofNat_of_zero_le hx1
  have hm : m < 18446744073709551616 := by omega
  have hBA : B * A = 18446744073709551616 := by rw [hBC, Nat.mul_assoc, Nat.mul_comm 2 A, ← Nat.mul_assoc, hCA]
  have hd : m / B < A := Nat.div_lt_of_lt_mul (by rw [hBA]; exact hm)
  have hlow : m * A % 18446744073709551616 = (m % B) * A := by
    rw [← hBA, Nat.mul_mod_mul_right]
  have hAi : (2 : Int) ^ n = (A : Int) := by rw [hA, Int.natCast_pow]; rfl
  have hBi : (2 : Int) ^ (64 - n) = (B : Int) := by rw [hB, Int.natCast_pow]; rfl
  have hq : ((m : Int) / 2 ^ (64 - n)) = ((m / B : Nat) : Int) := by rw [hBi, ← Int.natCast_ediv]
  have hp2 : IntKind.u64.wrap ((m : Int) * (A : Int)) = (((m % B) * A : Nat) : Int) := by
    rw [wrapU, ← hlow, ← Int.natCast_mul]
    generalize m * A = z
    omega
  have hp : IntKind.u64.wrap ((m : Int) * 2 ^ n) = (((m % B) * A : Nat) : Int) := by rw [hAi, hp2]
  have hlt : (m % B) * A < 18446744073709551616 := by rw [← hlow]; exact Nat.mod_lt _ (by decide)
  have hsum : (m % B) * A + m / B < 18446744073709551616 := by
    have h3 : (m % B + 1) * A ≤ B * A := Nat.mul_le_mul_right _ (Nat.mod_lt _ (by omega))
    rw [hBA, Nat.add_mul, Nat.one_mul] at h3
    omega
  unfold rotl
  rw [hp, hp2, hq]
  have hmn : (((m % B) * A : Nat) : Int) % 2 ^ n = 0 := by rw [hAi, ← Int.natCast_emod, Nat.mul_mod_left]; rfl
  rw [← Int.natCast_ediv]
  generalize (m % B) * A = z at hlt hsum hmn ⊢
  generalize m / B = y at hd hsum ⊢
  rw [or64 n (z : Int) (y : Int) ⟨by omega, by omega⟩ hmn ⟨by omega, by omega⟩ (by rw [hAi]; omega), wrapU, wrapU]
  congr 1
  omega
end Go.Proofs.Ytnckhligcdieaaa.Pure
namespace Go.Proofs.Ytnckhligcdieaaa.Pure
open Go.RowKit Go.Proofs.YtnckhligcdieaaaW.PrintWords Go.Proofs.YtnckhligcdieaaaW.PrintLast Go.Proofs.YtnckhligcdieaaaW.PrintMore Go.Proofs.Ytnckhligcdieaaa.P Go.Proofs.Ytnckhligcdieaaa.Kit
set_option linter.unusedVariables false
set_option linter.unusedSimpArgs false

theorem rd_set (l : List Int) (i j : Nat) (v : Int) (hi : i < l.length) : rd (l.set i v) (j : Int) = if j = i then v else rd l (j : Int) := by
  rw [rd_nat, rd_nat, List.getD_eq_getElem?_getD, List.getD_eq_getElem?_getD, List.getElem?_set]
  by_cases h : i = j
  · subst h
    rw [if_pos rfl, if_pos rfl, if_pos hi]; rfl
  · rw [if_neg h, if_neg (Ne.symm h)]
theorem rd_zeros (n j : Nat) : rd (List.replicate n 0) (j : Int) = 0 := by
  rw [rd_nat, List.getD_eq_getElem?_getD]
  by_cases h : j < n
  · rw [List.getElem?_replicate_of_lt h]; rfl
  · rw [List.getElem?_eq_none (by rw [List.length_replicate]; omega)]; rfl
theorem rd_ext {l u : List Int} (h : l.length = u.length) (hr : ∀ i : Nat, i < l.length → rd l (i : Int) = rd u (i : Int)) : l = u := by
  apply List.ext_getElem h
  intro i h1 h2
  have := hr i h1
  rw [rd_get l i h1, rd_get u i h2] at this
  exact this
theorem rd_in {P : Int → Prop} {l : List Int} (h : ∀ x ∈ l, P x) (i : Nat) (hi : i < l.length) : P (rd l (i : Int)) := by
  rw [rd_get l i hi]; exact h _ (List.getElem_mem hi)
def xr (a b : Int) : Int := Go.bits .xor .u64 a b
/-- A column's sum, n of its lanes. -/
def colS (a : List Int) (x : Nat) : Nat → Int
  | 0 => 0
  | n + 1 => xr (colS a x n) (rd a ((x + 5 * n : Nat) : Int))
theorem thC_rd (a : List Int) (x : Nat) (hx : x < 5) : ∀ m, rd (thC a m) (x : Int) = colS a x ((m + 4 - x) / 5)
  | 0 => by
    rw [show (0 + 4 - x) / 5 = 0 by omega]
    exact rd_zeros 5 x
  | m + 1 => by
    simp only [thC]
    rw [rd_set _ _ _ _ (by rw [thC_len]; omega), thC_rd a x hx m]
    by_cases h : x = m % 5
    · rw [if_pos h, ← h, thC_rd a x hx m, show (m + 1 + 4 - x) / 5 = (m + 4 - x) / 5 + 1 by omega]
      simp only [colS, xr]
      rw [show x + 5 * ((m + 4 - x) / 5) = m by omega]
    · rw [if_neg h, show (m + 1 + 4 - x) / 5 = (m + 4 - x) / 5 by omega]
/-- What is mixed into column x. -/
def mixD (c : List Int) (x : Nat) : Int := xr (rd c (((x + 4) % 5 : Nat) : Int)) (rotl (rd c (((x + 1) % 5 : Nat) : Int)) 1)
theorem thA_rd (a c : List Int) (i : Nat) : ∀ m, m ≤ a.length → rd (thA a c m) (i : Int) = if i < m then xr (rd a (i : Int)) (mixD c (i % 5)) else rd a (i : Int)
  | 0, _ => by rw [if_neg (by omega)]; rfl
  | m + 1, h => by
    simp only [thA]
    rw [rd_set _ _ _ _ (by rw [thA_len]; omega), thA_rd a c i m (by omega)]
    by_cases e : i = m
    · subst e
      rw [if_pos rfl, if_pos (by omega), thA_rd a c i i (by omega), if_neg (by omega)]
      rfl
    · rw [if_neg e]
      by_cases e2 : i < m
      · rw [if_pos e2, if_pos (by omega)]
      · rw [if_neg e2, if_neg (by omega)]
theorem chA_rd (a : List Int) (i : Nat) : ∀ m, m ≤ 25 → rd (chA a m) (i : Int) = if i < m then xr (rd a (i : Int)) (Go.bits .and .u64 (not64 (rd a (((i % 5 + 1) % 5 + 5 * (i / 5) : Nat) : Int))) (rd a (((i % 5 + 2) % 5 + 5 * (i / 5) : Nat) : Int))) else 0
  | 0, _ => by rw [if_neg (by omega)]; exact rd_zeros 25 i
  | m + 1, h => by
    simp only [chA]
    rw [rd_set _ _ _ _ (by rw [chA_len]; omega), chA_rd a i m (by omega)]
    by_cases e : i = m
    · subst e
      rw [if_pos rfl, if_pos (by omega)]
      rfl
    · rw [if_neg e]
      by_cases e2 : i < m
      · rw [if_pos e2, if_pos (by omega)]
      · rw [if_neg e2, if_neg (by omega)]
/-- Where the lane at (x, y) goes. -/
def goes (x y : Nat) : Nat := y + 5 * ((2 * x + 3 * y) % 5)
theorem goes_inj : ∀ x < 5, ∀ y < 5, ∀ u < 5, ∀ v < 5, goes x y = goes u v → x = u ∧ y = v := by
  intro x hx y hy u hu v hv h
  unfold goes at h
  have e : y = v := by omega
  subst e
  have e2 : (2 * x + 3 * y) % 5 = (2 * u + 3 * y) % 5 := by omega
  clear h
  omega
theorem goes_lt (x y : Nat) (hy : y < 5) : goes x y < 25 := by unfold goes; omega
theorem goes_all : ∀ i < 25, ∃ x < 5, ∃ y < 5, goes x y = i := by decide
def turnsV : List Int := [0, 1, 62, 28, 27, 36, 44, 6, 55, 20, 3, 10, 43, 25, 39, 41, 45, 15, 21, 8, 18, 2, 61, 56, 14]
theorem rp_zero : ∀ t < 24, (rpXY (t + 1)).1 + 5 * (rpXY (t + 1)).2 ≠ 0 := by decide
theorem rp_inj : ∀ s < 24, ∀ t < 24, (rpXY (s + 1)).1 + 5 * (rpXY (s + 1)).2 = (rpXY (t + 1)).1 + 5 * (rpXY (t + 1)).2 → s = t := by decide
theorem rpA_rd (a : List Int) (s : Nat) (hs : s < 24) : ∀ t, t ≤ 24 → rd (rpA a t) (((rpXY (s + 1)).1 + 5 * (rpXY (s + 1)).2 : Nat) : Int) = if s < t then rotl (rd a (((rpXY s).1 + 5 * (rpXY s).2 : Nat) : Int)) (rpN s) else 0
  | 0, _ => by
    rw [if_neg (by omega)]
    simp only [rpA]
    rw [rd_set _ _ _ _ (by decide), if_neg (rp_zero s hs)]
    exact rd_zeros 25 _
  | t + 1, h => by
    simp only [rpA]
    have hl := rpXY_lt (t + 1)
    rw [rd_set _ _ _ _ (by rw [rpA_len]; omega), rpA_rd a s hs t (by omega)]
    by_cases e : s = t
    · subst e
      rw [if_pos rfl, if_pos (by omega)]
    · rw [if_neg (fun h2 => e (rp_inj s hs t (by omega) h2))]
      by_cases e2 : s < t
      · rw [if_pos e2, if_pos (by omega)]
      · rw [if_neg e2, if_neg (by omega)]
theorem rpA_rd0 (a : List Int) : ∀ t, t ≤ 24 → rd (rpA a t) ((0 : Nat) : Int) = rd a ((0 : Nat) : Int)
  | 0, _ => by
    simp only [rpA]
    rw [rd_set _ _ _ _ (by decide), if_pos rfl]
  | t + 1, h => by
    simp only [rpA]
    have hl := rpXY_lt (t + 1)
    rw [rd_set _ _ _ _ (by rw [rpA_len]; omega), if_neg (Ne.symm (rp_zero t (by omega))), rpA_rd0 a t (by omega)]
theorem rp_find : ∀ x < 5, ∀ y < 5, (x = 0 ∧ y = 0) ∨ ∃ t < 24, (rpXY t).1 = x ∧ (rpXY t).2 = y ∧ goes x y = (rpXY (t + 1)).1 + 5 * (rpXY (t + 1)).2 ∧ rd turnsV ((x + 5 * y : Nat) : Int) = ((rpN t : Nat) : Int) ∧ rpN t < 64 := by decide
/-- A lane turned and moved. -/
theorem rhoPi_rd (a : List Int) (ha : ∀ x ∈ a, W64 x) (hl : a.length = 25) (x y : Nat) (hx : x < 5) (hy : y < 5) : ∃ n < 64, rd turnsV ((x + 5 * y : Nat) : Int) = ((n : Nat) : Int) ∧ rd (impl_rhoPi.v a) ((goes x y : Nat) : Int) = rotl (rd a ((x + 5 * y : Nat) : Int)) n := by
  rcases rp_find x hx y hy with ⟨rfl, rfl⟩ | ⟨t, ht, h1, h2, h3, h4, h5⟩
  · refine ⟨0, by decide, by decide, ?_⟩
    rw [rotl_zero _ (rd_in ha _ (by omega))]
    exact rpA_rd0 a 24 (Nat.le_refl _)
  · refine ⟨rpN t, h5, h4, ?_⟩
    rw [h3, impl_rhoPi.v, rpA_rd a t ht 24 (Nat.le_refl _), if_pos ht, h1, h2]

theorem theta_rd (a : List Int) (hl : a.length = 25) (i : Nat) (hi : i < 25) : rd (impl_theta.v a) (i : Int) = xr (rd a (i : Int)) (mixD (thC a 25) (i % 5)) := by
  unfold impl_theta.v
  rw [thA_rd a _ i 25 (by omega), if_pos hi]
theorem mem_rd {P : Int → Prop} {l : List Int} (h : ∀ i : Nat, i < l.length → P (rd l (i : Int))) : ∀ x ∈ l, P x := by
  intro x hx
  obtain ⟨i, hi, rfl⟩ := List.mem_iff_getElem.mp hx
  have := h i hi
  rw [rd_get l i hi] at this
  exact this
theorem theta_w (a : List Int) (hl : a.length = 25) : ∀ x ∈ impl_theta.v a, W64 x :=
  mem_rd fun i hi => by rw [theta_rd a hl i (by rw [theta_len a hl] at hi; exact hi)]; exact W64.xor _ _
theorem chi_w (a : List Int) : ∀ x ∈ impl_chi.v a, W64 x :=
  mem_rd fun i hi => by
    unfold impl_chi.v at hi ⊢
    rw [chA_len] at hi
    rw [chA_rd a i 25 (Nat.le_refl _), if_pos hi]; exact W64.xor _ _
theorem thC_w (a : List Int) (j : Nat) (hj : j < 5) : W64 (rd (thC a 25) (j : Int)) := by
  rw [thC_rd a j hj 25, show (25 + 4 - j) / 5 = 5 by omega]
  exact W64.xor _ _

/-- The columns' sums, as the reference makes them. -/
def cL (a : List Int) : Nat → List Int
  | 0 => List.replicate 5 0
  | i + 1 => (cL a i).set i (xr (xr (xr (xr (rd a (i : Int)) (rd a ((i + 5 : Nat) : Int))) (rd a ((i + 10 : Nat) : Int))) (rd a ((i + 15 : Nat) : Int))) (rd a ((i + 20 : Nat) : Int)))
theorem cL_len (a : List Int) : ∀ i, (cL a i).length = 5
  | 0 => rfl
  | i + 1 => by simp only [cL, List.length_set, cL_len a i]
theorem cL_rd (a : List Int) (j : Nat) : ∀ i, i ≤ 5 → j < i → rd (cL a i) (j : Int) = xr (xr (xr (xr (rd a (j : Int)) (rd a ((j + 5 : Nat) : Int))) (rd a ((j + 10 : Nat) : Int))) (rd a ((j + 15 : Nat) : Int))) (rd a ((j + 20 : Nat) : Int))
  | 0, _, h => absurd h (by omega)
  | i + 1, h, hj => by
    simp only [cL]
    rw [rd_set _ _ _ _ (by rw [cL_len]; omega)]
    by_cases e : j = i
    · subst e; rw [if_pos rfl]
    · rw [if_neg e, cL_rd a j i (by omega) (by omega)]
theorem cL_thC (a : List Int) (hl : a.length = 25) (ha : ∀ x ∈ a, W64 x) : cL a 5 = thC a 25 := by
  apply rd_ext (by rw [cL_len, thC_len])
  intro i hi
  rw [cL_len] at hi
  rw [cL_rd a i 5 (Nat.le_refl _) hi, thC_rd a i hi 25, show (25 + 4 - i) / 5 = 5 by omega]
  simp only [colS, xr]
  rw [show i + 5 * 0 = i by omega, xor_zero _ (rd_in ha i (by omega))]
/-- The lanes turned and moved, n of them, as the reference makes them. -/
def bL (a : List Int) : Nat → List Int
  | 0 => List.replicate 25 0
  | n + 1 => (bL a n).set (goes (n / 5) (n % 5)) (rotl (xr (rd a ((n / 5 + 5 * (n % 5) : Nat) : Int)) (mixD (thC a 25) (n / 5))) (rd turnsV ((n / 5 + 5 * (n % 5) : Nat) : Int)).toNat)
theorem bL_len (a : List Int) : ∀ i, (bL a i).length = 25
  | 0 => rfl
  | i + 1 => by simp only [bL, List.length_set, bL_len a i]
theorem bL_rd (a : List Int) (x y : Nat) (hx : x < 5) (hy : y < 5) : ∀ n, n ≤ 25 → 5 * x + y < n → rd (bL a n) ((goes x y : Nat) : Int) = rotl (xr (rd a ((x + 5 * y : Nat) : Int)) (mixD (thC a 25) x)) (rd turnsV ((x + 5 * y : Nat) : Int)).toNat
  | 0, _, h => absurd h (by omega)
  | n + 1, h, hj => by
    simp only [bL]
    rw [rd_set _ _ _ _ (by rw [bL_len]; exact goes_lt _ _ (by omega))]
    by_cases e : 5 * x + y = n
    · have e1 : n / 5 = x := by omega
      have e2 : n % 5 = y := by omega
      rw [e1, e2, if_pos rfl]
    · rw [if_neg (fun h2 => by have := goes_inj x hx y hy (n / 5) (by omega) (n % 5) (by omega) h2; omega), bL_rd a x y hx hy n (by omega) (by omega)]
theorem bL_rhoPi (a : List Int) (hl : a.length = 25) : bL a 25 = impl_rhoPi.v (impl_theta.v a) := by
  apply rd_ext (by rw [bL_len, rhoPi_len])
  intro i hi
  rw [bL_len] at hi
  obtain ⟨x, hx, y, hy, rfl⟩ := goes_all i hi
  obtain ⟨n, hn, h1, h2⟩ := rhoPi_rd (impl_theta.v a) (theta_w a hl) (theta_len a hl) x y hx hy
  rw [bL_rd a x y hx hy 25 (Nat.le_refl _) (by omega), h1, h2, theta_rd a hl _ (by omega), show (x + 5 * y) % 5 = x by omega, Int.toNat_natCast]
/-- The rows mixed, n lanes, as the reference makes them. -/
def hL (b : List Int) : Nat → List Int
  | 0 => List.replicate 25 0
  | n + 1 => (hL b n).set (n / 5 + 5 * (n % 5)) (xr (rd b ((n / 5 + 5 * (n % 5) : Nat) : Int)) (Go.bits .and .u64 (not64 (rd b (((n / 5 + 1) % 5 + 5 * (n % 5) : Nat) : Int))) (rd b (((n / 5 + 2) % 5 + 5 * (n % 5) : Nat) : Int))))
theorem hL_len (b : List Int) : ∀ i, (hL b i).length = 25
  | 0 => rfl
  | i + 1 => by simp only [hL, List.length_set, hL_len b i]
theorem hL_rd (b : List Int) (x y : Nat) (hx : x < 5) (hy : y < 5) : ∀ n, n ≤ 25 → 5 * x + y < n → rd (hL b n) ((x + 5 * y : Nat) : Int) = xr (rd b ((x + 5 * y : Nat) : Int)) (Go.bits .and .u64 (not64 (rd b (((x + 1) % 5 + 5 * y : Nat) : Int))) (rd b (((x + 2) % 5 + 5 * y : Nat) : Int)))
  | 0, _, h => absurd h (by omega)
  | n + 1, h, hj => by
    simp only [hL]
    rw [rd_set _ _ _ _ (by rw [hL_len]; omega)]
    by_cases e : 5 * x + y = n
    · have e1 : n / 5 = x := by omega
      have e2 : n % 5 = y := by omega
      rw [e1, e2, if_pos rfl]
    · rw [if_neg (by omega), hL_rd b x y hx hy n (by omega) (by omega)]
theorem hL_chi (b : List Int) : hL b 25 = impl_chi.v b := by
  apply rd_ext (by rw [hL_len]; exact (chA_len _ _).symm)
  intro i hi
  rw [hL_len] at hi
  have h1 := hL_rd b (i % 5) (i / 5) (by omega) (by omega) 25 (Nat.le_refl _) (by omega)
  rw [show i % 5 + 5 * (i / 5) = i by omega] at h1
  rw [h1, impl_chi.v, chA_rd b i 25 (Nat.le_refl _), if_pos hi]
end Go.Proofs.Ytnckhligcdieaaa.Pure
namespace Go.Proofs.Ytnckhligcdieaaa.Pure
open Go.RowKit Go.Proofs.YtnckhligcdieaaaW.PrintWords Go.Proofs.YtnckhligcdieaaaW.PrintLast Go.Proofs.YtnckhligcdieaaaW.PrintMore Go.Proofs.Ytnckhligcdieaaa.P Go.Proofs.Ytnckhligcdieaaa.Kit
set_option linter.unusedVariables false
set_option linter.unusedSimpArgs false

def roundV (a : List Int) (rc : Int) : List Int := (oneRound a).set 0 (Go.bits .xor .u64 (rd (oneRound a) ((0 : Nat) : Int)) rc)
theorem chi_loop (b : List Int) (hb : b.length = 25) (hw : ∀ x ∈ b, W64 x) (rc : Int) : Ev (fun k => spec_l07Round.l3 k rc b (List.replicate 25 0) 0) ((impl_chi.v b).set 0 (Go.bits .xor .u64 (rd (impl_chi.v b) ((0 : Nat) : Int)) rc)) := by
  refine Ev.up (g := fun i k => spec_l07Round.l3 k rc b (hL b (5 * i)) (i : Int)) 5 ?_ ?_ 0 (Nat.zero_le _)
  · intro x hx hh
    refine Ev.step (f := fun k => spec_l07Round.l4 k rc b (hL b (5 * x)) (x : Int) 0) (fun k => ?_) ?_
    · simp only [spec_l07Round.l3]
      rw [if_pos (by omega)]
    · refine Ev.up (g := fun j k => spec_l07Round.l4 k rc b (hL b (5 * x + j)) (x : Int) (j : Int)) 5 ?_ ?_ 0 (Nat.zero_le _)
      · intro y hy h2
        refine Ev.step (fun k => ?_) h2
        have e1 : wrap64 ((x : Int) + wrap64 (5 * (y : Int))) = ((x + 5 * y : Nat) : Int) := by
          rw [w64 (x := 5 * (y : Int)) (by omega) (by omega), w64 (by omega) (by omega)]; omega
        have e2 : wrap64 (Int.tmod (wrap64 ((x : Int) + 1)) 5 + wrap64 (5 * (y : Int))) = (((x + 1) % 5 + 5 * y : Nat) : Int) := by
          rw [w64 (x := (x : Int) + 1) (by omega) (by omega), w64 (x := 5 * (y : Int)) (by omega) (by omega), Int.tmod_eq_emod_of_nonneg (by omega), w64 (by omega) (by omega)]; omega
        have e3 : wrap64 (Int.tmod (wrap64 ((x : Int) + 2)) 5 + wrap64 (5 * (y : Int))) = (((x + 2) % 5 + 5 * y : Nat) : Int) := by
          rw [w64 (x := (x : Int) + 2) (by omega) (by omega), w64 (x := 5 * (y : Int)) (by omega) (by omega), Int.tmod_eq_emod_of_nonneg (by omega), w64 (by omega) (by omega)]; omega
        simp only [spec_l07Round.l4, e1, e2, e3]
        have hl := hL_len b (5 * x + y)
        rw [if_pos (by omega), if_pos (by omega), if_pos (by omega), if_pos (by omega), if_pos (by omega), if_pos (by omega), if_pos (by omega), if_pos (by omega), w64s y (by omega), not64_eq _ (rd_in hw _ (by omega)), Int.toNat_natCast]
        congr 1
        show _ = hL b (5 * x + y + 1)
        simp only [hL, xr]
        rw [show (5 * x + y) / 5 = x by omega, show (5 * x + y) % 5 = y by omega]
      · refine Ev.step (fun k => ?_) hh
        simp only [spec_l07Round.l4]
        rw [if_neg (by omega), w64s x (by omega)]
        rfl
  · refine Ev.step (f := fun _ => some ((impl_chi.v b).set 0 (Go.bits .xor .u64 (rd (impl_chi.v b) ((0 : Nat) : Int)) rc))) (fun k => ?_) (Ev.now _)
    simp only [spec_l07Round.l3]
    have hl := hL_len b 25
    rw [if_neg (by omega), show 5 * 5 = 25 from rfl, if_pos (by omega), hL_chi]
    rfl
theorem at_goes (x y : Nat) (hx : x < 5) (hy : y < 5) : wrap64 ((y : Int) + wrap64 (5 * Int.tmod (wrap64 (wrap64 (2 * (x : Int)) + wrap64 (3 * (y : Int)))) 5)) = ((goes x y : Nat) : Int) := by
  have h1 : wrap64 (2 * (x : Int)) = 2 * (x : Int) := w64 (by omega) (by omega)
  have h2 : wrap64 (3 * (y : Int)) = 3 * (y : Int) := w64 (by omega) (by omega)
  have h3 : wrap64 (2 * (x : Int) + 3 * (y : Int)) = 2 * (x : Int) + 3 * (y : Int) := w64 (by omega) (by omega)
  rw [h1, h2, h3, Int.tmod_eq_emod_of_nonneg (by omega)]
  have h4 : wrap64 (5 * ((2 * (x : Int) + 3 * (y : Int)) % 5)) = 5 * ((2 * (x : Int) + 3 * (y : Int)) % 5) := w64 (by omega) (by omega)
  rw [h4, w64 (by omega) (by omega)]
  unfold goes
  omega
theorem at_lane (x y : Nat) (hx : x < 5) (hy : y < 5) : wrap64 ((x : Int) + wrap64 (5 * (y : Int))) = ((x + 5 * y : Nat) : Int) := by
  have h1 : wrap64 (5 * (y : Int)) = 5 * (y : Int) := w64 (by omega) (by omega)
  rw [h1, w64 (by omega) (by omega)]
  omega
theorem mix_loop (a c T : List Int) (B : Nat → List Int) (hl : a.length = 25) (rc : Int) (r : List Int) (hc : c.length = 5) (hcw : ∀ j : Nat, j < 5 → W64 (rd c (j : Int))) (htl : T.length = 25)
    (hT : ∀ x y : Nat, x < 5 → y < 5 → ∃ n < 64, rd T ((x + 5 * y : Nat) : Int) = ((n : Nat) : Int)) (hB0 : B 0 = List.replicate 25 0) (hBl : ∀ n, (B n).length = 25)
    (hBs : ∀ x y : Nat, x < 5 → y < 5 → B (5 * x + y + 1) = (B (5 * x + y)).set (goes x y) (rotl (xr (rd a ((x + 5 * y : Nat) : Int)) (mixD c x)) (rd T ((x + 5 * y : Nat) : Int)).toNat))
    (h : Ev (fun k => spec_l07Round.l3 k rc (B 25) (List.replicate 25 0) 0) r) : Ev (fun k => spec_l07Round.l1 k a T rc c (List.replicate 25 0) 0) r := by
  rw [← hB0]
  refine Ev.up (g := fun i k => spec_l07Round.l1 k a T rc c (B (5 * i)) (i : Int)) 5 ?_ ?_ 0 (Nat.zero_le _)
  · intro x hx hh
    have e1 : Int.tmod (wrap64 ((x : Int) + 4)) 5 = (((x + 4) % 5 : Nat) : Int) := by
      rw [w64 (x := (x : Int) + 4) (by omega) (by omega), Int.tmod_eq_emod_of_nonneg (by omega)]; omega
    have e2 : Int.tmod (wrap64 ((x : Int) + 1)) 5 = (((x + 1) % 5 : Nat) : Int) := by
      rw [w64 (x := (x : Int) + 1) (by omega) (by omega), Int.tmod_eq_emod_of_nonneg (by omega)]; omega
    refine Ev.step (f := fun k => (spec_l07Left.f k (rd c (((x + 1) % 5 : Nat) : Int)) ((1 : Nat) : Int)).bind fun t => spec_l07Round.l2 k a T rc c (B (5 * x)) (x : Int) (Go.bits .xor .u64 (rd c (((x + 4) % 5 : Nat) : Int)) t) ((0 : Nat) : Int)) (fun k => ?_) ?_
    · simp only [spec_l07Round.l1, e1, e2]
      rw [if_pos (by omega), if_pos (by omega), if_pos (by omega), if_pos (by omega), if_pos (by omega)]
      rfl
    · refine Ev.bind (left_ev _ 1 (hcw _ (by omega)) (by decide)) ?_
      have hm : Go.bits .xor .u64 (rd c (((x + 4) % 5 : Nat) : Int)) (rotl (rd c (((x + 1) % 5 : Nat) : Int)) 1) = mixD c x := rfl
      rw [hm]
      clear hm e1 e2
      have hB2 := fun y hy => hBs x y hx hy
      generalize mixD c x = D at hB2 ⊢
      refine Ev.up (g := fun j k => spec_l07Round.l2 k a T rc c (B (5 * x + j)) (x : Int) D (j : Int)) 5 ?_ ?_ 0 (Nat.zero_le _)
      · intro y hy h2
        have hg := goes_lt x y hy
        have hbl := hBl (5 * x + y)
        have c1 : (y : Int) < 5 := by omega
        have c2 : (0 : Int) ≤ ((x + 5 * y : Nat) : Int) := by omega
        have c3 : ((x + 5 * y : Nat) : Int) < (a.length : Int) := by rw [hl]; omega
        have c4 : ((x + 5 * y : Nat) : Int) < (T.length : Int) := by rw [htl]; omega
        have c5 : y < 9223372036854775807 := by omega
        have c6 : (0 : Int) ≤ ((goes x y : Nat) : Int) := by omega
        have c7 : ((goes x y : Nat) : Int) < ((B (5 * x + y)).length : Int) := by rw [hbl]; omega
        have e1 := at_lane x y hx hy
        have e2 := at_goes x y hx hy
        obtain ⟨n, hn, h3⟩ := hT x y hx hy
        refine Ev.step (f := fun k => (spec_l07Left.f k (Go.bits .xor .u64 (rd a ((x + 5 * y : Nat) : Int)) D) ((n : Nat) : Int)).bind fun t => spec_l07Round.l2 k a T rc c ((B (5 * x + y)).set (goes x y) t) (x : Int) D ((y + 1 : Nat) : Int)) (fun k => ?_) ?_
        · simp only [spec_l07Round.l2, e1, e2, h3]
          rw [if_pos c1, if_pos c2, if_pos c3, if_pos c4, w64s y c5]
          congr 1
          funext t
          rw [if_pos c6, if_pos c7, Int.toNat_natCast]
        · refine Ev.bind (left_ev _ n (W64.xor _ _) hn) ?_
          have h4 := hB2 y hy
          rw [h3, Int.toNat_natCast] at h4
          unfold xr at h4
          rw [show 5 * x + (y + 1) = 5 * x + y + 1 from rfl, h4] at h2
          exact h2
      · refine Ev.step (fun k => ?_) hh
        simp only [spec_l07Round.l2]
        rw [if_neg (by omega), w64s x (by omega), show 5 * x + 5 = 5 * (x + 1) by omega]
  · refine Ev.step (fun k => ?_) h
    simp only [spec_l07Round.l1]
    rw [if_neg (by omega), if_pos (by decide)]
theorem bL_w (a : List Int) (hl : a.length = 25) : ∀ x ∈ bL a 25, W64 x := by
  refine mem_rd fun i hi => ?_
  rw [bL_len] at hi
  obtain ⟨x, hx, y, hy, rfl⟩ := goes_all i hi
  rw [bL_rd a x y hx hy 25 (Nat.le_refl _) (by omega)]
  exact rotl_w _ _
theorem mix_ev (a : List Int) (hl : a.length = 25) (ha : ∀ x ∈ a, W64 x) (rc : Int) : Ev (fun k => spec_l07Round.l1 k a turnsV rc (thC a 25) (List.replicate 25 0) 0) (roundV a rc) := by
  refine mix_loop a (thC a 25) turnsV (bL a) hl rc _ (thC_len a 25) (thC_w a) rfl ?_ rfl (bL_len a) ?_ ?_
  · intro x y hx hy
    obtain ⟨n, hn, h3, _⟩ := rhoPi_rd a ha hl x y hx hy
    exact ⟨n, hn, h3⟩
  · intro x y hx hy
    simp only [bL]
    rw [show (5 * x + y) / 5 = x by omega, show (5 * x + y) % 5 = y by omega]
  · have h := chi_loop (bL a 25) (bL_len a 25) (bL_w a hl) rc
    rw [show impl_chi.v (bL a 25) = oneRound a by rw [bL_rhoPi a hl]; rfl] at h
    exact h
theorem round_ev (a : List Int) (hl : a.length = 25) (ha : ∀ x ∈ a, W64 x) (rc : Int) : Ev (fun k => spec_l07Round.f k a turnsV rc) (roundV a rc) := by
  unfold spec_l07Round.f
  refine Ev.pos (by decide) ?_
  refine Ev.up (g := fun i k => spec_l07Round.l0 k a turnsV rc (cL a i) (i : Int)) 5 ?_ ?_ 0 (Nat.zero_le _)
  · intro i hi hh
    refine Ev.step (fun k => ?_) hh
    have hc := cL_len a i
    have e5 : wrap64 ((i : Int) + 5) = ((i + 5 : Nat) : Int) := by rw [w64 (by omega) (by omega)]; rfl
    have e10 : wrap64 ((i : Int) + 10) = ((i + 10 : Nat) : Int) := by rw [w64 (by omega) (by omega)]; rfl
    have e15 : wrap64 ((i : Int) + 15) = ((i + 15 : Nat) : Int) := by rw [w64 (by omega) (by omega)]; rfl
    have e20 : wrap64 ((i : Int) + 20) = ((i + 20 : Nat) : Int) := by rw [w64 (by omega) (by omega)]; rfl
    simp only [spec_l07Round.l0, e5, e10, e15, e20]
    rw [if_pos (by omega), if_pos (by omega), if_pos (by omega), if_pos (by omega), if_pos (by omega), if_pos (by omega), if_pos (by omega), if_pos (by omega), if_pos (by omega), if_pos (by omega), if_pos (by omega), if_pos (by omega), w64s i (by omega), Int.toNat_natCast]
    rfl
  · refine Ev.step (f := fun k => spec_l07Round.l1 k a turnsV rc (thC a 25) (List.replicate 25 0) 0) (fun k => ?_) (mix_ev a hl ha rc)
    simp only [spec_l07Round.l0]
    rw [if_neg (by omega), if_pos (by decide), cL_thC a hl ha]
end Go.Proofs.Ytnckhligcdieaaa.Pure
namespace Go.Proofs.Ytnckhligcdieaaa.Pure
open Go.RowKit Go.Proofs.YtnckhligcdieaaaW.PrintWords Go.Proofs.YtnckhligcdieaaaW.PrintLast Go.Proofs.YtnckhligcdieaaaW.PrintMore Go.Proofs.Ytnckhligcdieaaa.P Go.Proofs.Ytnckhligcdieaaa.Kit
set_option linter.unusedVariables false
set_option linter.unusedSimpArgs false

theorem turns_ev : Ev (fun k => spec_l07Turns.f k) turnsV := Ev.of (fun k => spec_l07Turns.mono k) (k := 40) (by kernel_rfl)
def rcL : List Int := (List.range 24).map rcV
theorem rounds_ev : Ev (fun k => spec_l07Rounds.f k) rcL := Ev.of (fun k => spec_l07Rounds.mono k) (k := 300) (by kernel_rfl)
theorem rcL_rd (t : Nat) (h : t < 24) : rd rcL (t : Int) = rcV t := by
  rw [rd_get _ t (by unfold rcL; simpa using h)]
  simp only [rcL, List.getElem_map, List.getElem_range]
theorem rcL_len : rcL.length = 24 := by unfold rcL; simp
theorem roundV_w (a : List Int) (rc : Int) : ∀ x ∈ roundV a rc, W64 x := by
  intro x hx
  rcases List.mem_or_eq_of_mem_set hx with h | h
  · exact chi_w _ x h
  · rw [h]; exact W64.xor _ _
theorem permA_w (a : List Int) (ha : ∀ x ∈ a, W64 x) : ∀ t, ∀ x ∈ permA a t, W64 x
  | 0 => ha
  | t + 1 => roundV_w _ _
theorem perm_ev (a : List Int) (hl : a.length = 25) (ha : ∀ x ∈ a, W64 x) : Ev (fun k => spec_l07Permute.f k a) (impl_permuted.v a) := by
  unfold spec_l07Permute.f
  refine Ev.bind turns_ev (Ev.bind rounds_ev ?_)
  refine Ev.up (g := fun i k => spec_l07Permute.l0 k (permA a i) turnsV rcL (i : Int)) 24 ?_ ?_ 0 (Nat.zero_le _)
  · intro t ht hh
    have c1 : (t : Int) < 24 := by omega
    have c2 : (0 : Int) ≤ (t : Int) := by omega
    have c3 : (t : Int) < (rcL.length : Int) := by rw [rcL_len]; omega
    have c4 := w64s t (by omega)
    refine Ev.step (f := fun k => (spec_l07Round.f k (permA a t) turnsV (rcV t)).bind fun u => spec_l07Permute.l0 k u turnsV rcL ((t + 1 : Nat) : Int)) (fun k => ?_) ?_
    · simp only [spec_l07Permute.l0]
      rw [if_pos c1, if_pos c2, if_pos c3, c4, rcL_rd t ht]
    · exact Ev.bind (round_ev _ (permA_len a t hl) (permA_w a ha t) _) hh
  · refine Ev.step (f := fun _ => some (impl_permuted.v a)) (fun k => ?_) (Ev.now _)
    simp only [spec_l07Permute.l0]
    rw [if_neg (by omega)]
    rfl
/-- The number of n bytes, the lowest first. -/
def pb (f : Nat → Int) : Nat → Int
  | 0 => 0
  | j + 1 => pb f j + f j * ((2 ^ (8 * j) : Nat) : Int)
theorem pb_in (f : Nat → Int) (hf : ∀ q, 0 ≤ f q ∧ f q ≤ 255) : ∀ n, 0 ≤ pb f n ∧ pb f n < ((2 ^ (8 * n) : Nat) : Int)
  | 0 => by simp [pb]
  | n + 1 => by
    have ih := pb_in f hf n
    have hn := hf n
    simp only [pb]
    have e : 2 ^ (8 * (n + 1)) = 256 * 2 ^ (8 * n) := by rw [Nat.mul_add, Nat.pow_add, Nat.mul_comm]
    rw [e]
    generalize 2 ^ (8 * n) = A at ih ⊢
    have h1 : f n * (A : Int) ≤ 255 * (A : Int) := Int.mul_le_mul_of_nonneg_right hn.2 (by omega)
    have h2 : 0 ≤ f n * (A : Int) := Int.mul_nonneg hn.1 (by omega)
    generalize f n * (A : Int) = z at h1 h2 ⊢
    omega
theorem bt_in (s : ByteArray) (i : Int) : 0 ≤ bt s i ∧ bt s i ≤ 255 := by have := bt_range s i; omega
/-- The bytes of lane i. -/
def lb (s : ByteArray) (i : Nat) (q : Nat) : Int := bt s ((8 * i + q : Nat) : Int)
def laneV (s : ByteArray) (i : Nat) : Int := pb (lb s i) 8
theorem laneV_w (s : ByteArray) (i : Nat) : W64 (laneV s i) := by
  have h := pb_in (lb s i) (fun q => bt_in s _) 8
  exact ⟨h.1, h.2⟩
theorem lane_or (f : Nat → Int) (hf : ∀ q, 0 ≤ f q ∧ f q ≤ 255) (j : Nat) (hj : j < 8) : Go.bits .or .u64 (pb f j) (IntKind.u64.wrap (IntKind.u64.wrap (f j) * 2 ^ min (8 * j) 64)) = pb f (j + 1) := by
  have hb := hf j
  have h1 := pb_in f hf j
  have h9 := pb_in f hf (j + 1)
  have hA : 2 ^ (8 * j) ≤ 2 ^ 56 := Nat.pow_le_pow_right (by decide) (by omega)
  have hB : 2 ^ (8 * (j + 1)) ≤ 2 ^ 64 := Nat.pow_le_pow_right (by decide) (by omega)
  rw [Nat.min_eq_left (by omega), show (2 : Int) ^ (8 * j) = ((2 ^ (8 * j) : Nat) : Int) by rw [Int.natCast_pow]; rfl]
  simp only [pb] at h9 ⊢
  have hi : (2 : Int) ^ (8 * j) = ((2 ^ (8 * j) : Nat) : Int) := by rw [Int.natCast_pow]; rfl
  have e1 : IntKind.u64.wrap (f j) = f j := by rw [wrapU]; omega
  have h2 : 0 ≤ f j * ((2 ^ (8 * j) : Nat) : Int) := Int.mul_nonneg hb.1 (by omega)
  have h3 : f j * ((2 ^ (8 * j) : Nat) : Int) % ((2 ^ (8 * j) : Nat) : Int) = 0 := Int.mul_emod_left _ _
  rw [e1]
  have h4 : f j * ((2 ^ (8 * j) : Nat) : Int) < 18446744073709551616 := by
    generalize f j * ((2 ^ (8 * j) : Nat) : Int) = z at h2 h9 ⊢
    omega
  have e2 : IntKind.u64.wrap (f j * ((2 ^ (8 * j) : Nat) : Int)) = f j * ((2 ^ (8 * j) : Nat) : Int) := by
    rw [wrapU]
    generalize f j * ((2 ^ (8 * j) : Nat) : Int) = z at h2 h4 ⊢
    omega
  rw [e2]
  exact or64' (8 * j) _ _ ⟨h1.1, by omega⟩ (by rw [hi]; exact h1.2) ⟨h2, h4⟩ (by rw [hi]; exact h3)
theorem lanesA_rd (s : ByteArray) (i : Nat) (hi : i < 25) : ∀ m, m ≤ 200 → rd (lanesA s m) (i : Int) = pb (lb s i) (min 8 (m - 8 * i))
  | 0, _ => by
    rw [show min 8 (0 - 8 * i) = 0 by omega]
    exact rd_zeros 25 i
  | m + 1, h => by
    simp only [lanesA]
    rw [rd_set _ _ _ _ (by rw [lanesA_len]; omega), lanesA_rd s i hi m (by omega)]
    by_cases e : i = m / 8
    · rw [if_pos e, ← e, lanesA_rd s i hi m (by omega), show min 8 (m - 8 * i) = m % 8 by omega, show min 8 (m + 1 - 8 * i) = m % 8 + 1 by omega, ← lane_or (lb s i) (fun q => bt_in s _) (m % 8) (by omega)]
      unfold lb
      rw [show 8 * i + m % 8 = m by omega]
    · rw [if_neg e, show min 8 (m + 1 - 8 * i) = min 8 (m - 8 * i) by omega]
theorem lanesOf_eq (s : ByteArray) : impl_lanesOf.v s = (List.range 25).map (laneV s) := by
  unfold impl_lanesOf.v
  apply rd_ext (by rw [lanesA_len]; rfl)
  intro i hi
  rw [lanesA_len] at hi
  rw [lanesA_rd s i hi 200 (Nat.le_refl _), rd_get _ i (by simpa using hi), List.getElem_map, List.getElem_range, show min 8 (200 - 8 * i) = 8 by omega]
  rfl
/-- The same number, from its highest byte on. -/
def hv (f : Nat → Int) : Nat → Int
  | 0 => 0
  | n + 1 => hv f n * 256 + f (7 - n)
theorem hv_in (f : Nat → Int) (hf : ∀ q, 0 ≤ f q ∧ f q ≤ 255) : ∀ n, 0 ≤ hv f n ∧ hv f n < ((2 ^ (8 * n) : Nat) : Int)
  | 0 => by simp [hv]
  | n + 1 => by
    have ih := hv_in f hf n
    have hn := hf (7 - n)
    simp only [hv]
    have e : 2 ^ (8 * (n + 1)) = 256 * 2 ^ (8 * n) := by rw [Nat.mul_add, Nat.pow_add, Nat.mul_comm]
    rw [e]
    generalize 2 ^ (8 * n) = A at ih ⊢
    omega
theorem hv_pb (f : Nat → Int) : hv f 8 = pb f 8 := by
  simp only [hv, pb]
  simp only [Nat.reduceSub, Nat.reduceMul, Nat.reducePow]
  omega
theorem lanes_ev (s : ByteArray) (n : Nat) (hs : s.size = 8 * n) (hn : n ≤ 1000) : Ev (fun k => spec_l07Lanes.f k s) ((List.range n).map (laneV s)) := by
  unfold spec_l07Lanes.f
  refine Ev.up (g := fun i k => spec_l07Lanes.l0 k s ((List.range i).map (laneV s)) ((8 * i : Nat) : Int)) n ?_ ?_ 0 (Nat.zero_le _)
  · intro i hi hh
    refine Ev.step (f := fun k => spec_l07Lanes.l1 k s ((List.range i).map (laneV s)) ((8 * i : Nat) : Int) 0 7) (fun k => ?_) ?_
    · simp only [spec_l07Lanes.l0]
      rw [if_pos (by rw [w64 (by omega) (by omega)]; omega)]
    · refine Ev.up (g := fun j k => spec_l07Lanes.l1 k s ((List.range i).map (laneV s)) ((8 * i : Nat) : Int) (hv (lb s i) j) (7 - (j : Int))) 8 ?_ ?_ 0 (Nat.zero_le _)
      · intro j hj h2
        refine Ev.step (fun k => ?_) h2
        have e1 : wrap64 (((8 * i : Nat) : Int) + (7 - (j : Int))) = ((8 * i + (7 - j) : Nat) : Int) := by rw [w64 (by omega) (by omega)]; omega
        have e2 : wrap64 (7 - (j : Int) - 1) = 7 - ((j + 1 : Nat) : Int) := by rw [w64 (by omega) (by omega)]; omega
        have hA : 2 ^ (8 * j) ≤ 2 ^ 56 := Nat.pow_le_pow_right (by decide) (by omega)
        have h3 := hv_in (lb s i) (fun q => bt_in s _) j
        have h4 := bt_in s ((8 * i + (7 - j) : Nat) : Int)
        have c1 : 7 - (j : Int) ≥ 0 := by omega
        have c2 : (0 : Int) ≤ ((8 * i + (7 - j) : Nat) : Int) := by omega
        have c3 : ((8 * i + (7 - j) : Nat) : Int) < (s.size : Int) := by omega
        simp only [spec_l07Lanes.l1, e1, e2]
        rw [if_pos c1, if_pos c2, if_pos c3]
        congr 1
        simp only [hv]
        show _ = _ + bt s ((8 * i + (7 - j) : Nat) : Int)
        generalize hv (lb s i) j = z at h3 ⊢
        generalize bt s ((8 * i + (7 - j) : Nat) : Int) = b at h4 ⊢
        rw [wrapU, wrapU, wrapU]
        omega
      · refine Ev.step (fun k => ?_) hh
        simp only [spec_l07Lanes.l1]
        rw [if_neg (by omega), if_pos (by simp; omega), hv_pb, w64 (by omega) (by omega), List.range_succ, List.map_append]
        rfl
  · refine Ev.step (f := fun _ => some ((List.range n).map (laneV s))) (fun k => ?_) (Ev.now _)
    simp only [spec_l07Lanes.l0]
    rw [if_neg (by rw [w64 (by omega) (by omega)]; omega)]
/-- The byte m of lanes. -/
def laneB (xs : List Int) (m : Nat) : Int := rd xs ((m / 8 : Nat) : Int) / 2 ^ (8 * (m % 8)) % 256
theorem textA_rd (xs : List Int) (i : Nat) : ∀ m, m ≤ 200 → rd (textA xs m) (i : Int) = if i < m then laneB xs i else 0
  | 0, _ => by rw [if_neg (by omega)]; exact rd_zeros 200 i
  | m + 1, h => by
    simp only [textA]
    rw [rd_set _ _ _ _ (by rw [textA_len]; omega), textA_rd xs i m (by omega)]
    by_cases e : i = m
    · subst e
      rw [if_pos rfl, if_pos (by omega)]
      rfl
    · rw [if_neg e]
      by_cases e2 : i < m
      · rw [if_pos e2, if_pos (by omega)]
      · rw [if_neg e2, if_neg (by omega)]
theorem textA_eq (xs : List Int) : textA xs 200 = (List.range 200).map (laneB xs) := by
  apply rd_ext (by rw [textA_len]; simp)
  intro i hi
  rw [textA_len] at hi
  rw [textA_rd xs i 200 (Nat.le_refl _), if_pos hi, rd_get _ i (by simpa using hi), List.getElem_map, List.getElem_range]
theorem bytes_ev (xs : List Int) (hx : ∀ x ∈ xs, W64 x) (hl : xs.length ≤ 1000) : Ev (fun k => spec_l07Bytes.f k xs) (strOfNums ((List.range (8 * xs.length)).map (laneB xs))) := by
  unfold spec_l07Bytes.f
  refine Ev.up (g := fun i k => spec_l07Bytes.l0 k xs ((List.range (8 * i)).map (laneB xs)) (i : Int)) xs.length ?_ ?_ 0 (Nat.zero_le _)
  · intro i hi hh
    have hw := rd_in hx i hi
    refine Ev.step (f := fun k => spec_l07Bytes.l1 k xs ((List.range (8 * i + 0)).map (laneB xs)) (i : Int) (rd xs (i : Int) / 2 ^ (8 * 0)) ((0 : Nat) : Int)) (fun k => ?_) ?_
    · simp only [spec_l07Bytes.l0]
      rw [if_pos (by omega), if_pos (by omega), Nat.mul_zero, Int.pow_zero, Int.ediv_one]
      rfl
    · refine Ev.up (g := fun j k => spec_l07Bytes.l1 k xs ((List.range (8 * i + j)).map (laneB xs)) (i : Int) (rd xs (i : Int) / 2 ^ (8 * j)) (j : Int)) 8 ?_ ?_ 0 (Nat.zero_le _)
      · intro j hj h2
        refine Ev.step (fun k => ?_) h2
        have hA : (0 : Int) < 2 ^ (8 * j) := Int.pow_pos (by decide)
        have h3 : 0 ≤ rd xs (i : Int) / 2 ^ (8 * j) := Int.ediv_nonneg hw.1 (by omega)
        have h4 : rd xs (i : Int) / 2 ^ (8 * j) ≤ rd xs (i : Int) := Int.ediv_le_self _ hw.1
        have h5 := hw.2
        have e1 : rd xs (i : Int) / 2 ^ (8 * j) / 256 = rd xs (i : Int) / 2 ^ (8 * (j + 1)) := by
          rw [Int.ediv_ediv_of_nonneg (by omega), Nat.mul_add, Int.pow_add]; rfl
        have e3 : laneB xs (8 * i + j) = rd xs (i : Int) / 2 ^ (8 * j) % 256 := by
          unfold laneB
          rw [show (8 * i + j) / 8 = i by omega, show (8 * i + j) % 8 = j by omega]
        have e2 : (List.range (8 * i + (j + 1))).map (laneB xs) = (List.range (8 * i + j)).map (laneB xs) ++ [rd xs (i : Int) / 2 ^ (8 * j) % 256] := by
          rw [show 8 * i + (j + 1) = 8 * i + j + 1 from rfl, List.range_succ, List.map_append, List.map_singleton, e3]
        simp only [spec_l07Bytes.l1]
        rw [if_pos (by omega), if_pos (by simp; omega), w64s j (by omega), e2, ← e1]
        generalize rd xs (i : Int) / 2 ^ (8 * j) = z at h3 h4 ⊢
        rw [Int.tdiv_eq_ediv_of_nonneg h3, Int.tmod_eq_emod_of_nonneg h3, wrapU]
        congr 1
        · congr 2; omega
        · omega
      · refine Ev.step (fun k => ?_) hh
        simp only [spec_l07Bytes.l1]
        rw [if_neg (by omega), w64s i (by omega), show 8 * i + 8 = 8 * (i + 1) by omega]
  · refine Ev.step (f := fun _ => some (strOfNums ((List.range (8 * xs.length)).map (laneB xs)))) (fun k => ?_) (Ev.now _)
    simp only [spec_l07Bytes.l0]
    rw [if_neg (by omega)]
theorem text_ev (xs : List Int) (hx : ∀ x ∈ xs, W64 x) (hl : xs.length = 25) : Ev (fun k => spec_l07Bytes.f k xs) (impl_text.v xs) := by
  have h := bytes_ev xs hx (by omega)
  rw [hl, ← textA_eq] at h
  exact h
theorem lanesOf_w (s : ByteArray) : ∀ x ∈ impl_lanesOf.v s, W64 x := by
  rw [lanesOf_eq]
  intro x hx
  obtain ⟨i, _, rfl⟩ := List.mem_map.mp hx
  exact laneV_w s i
theorem lanesOf_len (s : ByteArray) : (impl_lanesOf.v s).length = 25 := lanesA_len s 200
theorem permuted_w (a : List Int) (ha : ∀ x ∈ a, W64 x) : ∀ x ∈ impl_permuted.v a, W64 x := permA_w a ha 24
theorem permute_ev (s : ByteArray) (hs : s.size = 200) : Ev (fun k => spec_Permute.f k s) (permB s) := by
  unfold spec_Permute.f
  refine Ev.pos (by omega) ?_
  have h := lanes_ev s 25 (by omega) (by decide)
  rw [← lanesOf_eq] at h
  exact Ev.bind h (Ev.bind (perm_ev _ (lanesOf_len s) (lanesOf_w s)) (Ev.bind (text_ev _ (permuted_w _ (lanesOf_w s)) (permA_len _ 24 (lanesOf_len s))) (Ev.now _)))
end Go.Proofs.Ytnckhligcdieaaa.Pure
namespace Go.Proofs.Ytnckhligcdieaaa.Pure
open Go.RowKit Go.Proofs.YtnckhligcdieaaaW.PrintWords Go.Proofs.YtnckhligcdieaaaW.PrintLast Go.Proofs.YtnckhligcdieaaaW.PrintMore Go.Proofs.Ytnckhligcdieaaa.P Go.Proofs.Ytnckhligcdieaaa.Kit
set_option linter.unusedVariables false
set_option linter.unusedSimpArgs false

def B8 (x : Int) : Prop := 0 ≤ x ∧ x ≤ 255
theorem B8.xor (a b : Int) : B8 (Go.bits .xor .u8 a b) := by
  show B8 (IntKind.u8.wrap (((BitVec.ofInt 8 a ^^^ BitVec.ofInt 8 b).toNat : Nat) : Int))
  rw [IntKind.wrap_u8]; unfold B8; omega
theorem xor8 (a b : Nat) (ha : a < 256) (hb : b < 256) : Go.bits .xor .u8 (a : Int) (b : Int) = ((a ^^^ b : Nat) : Int) := by
  show IntKind.u8.wrap (((BitVec.ofInt 8 (a : Int) ^^^ BitVec.ofInt 8 (b : Int)).toNat : Nat) : Int) = _
  have e1 : (BitVec.ofInt 8 (a : Int) ^^^ BitVec.ofInt 8 (b : Int)).toNat = a ^^^ b := by
    rw [BitVec.toNat_xor, BitVec.toNat_ofInt, BitVec.toNat_ofInt]
    congr 1 <;> omega
  rw [e1]
  have : a ^^^ b < 2 ^ 8 := Nat.xor_lt_two_pow ha hb
  rw [IntKind.wrap_u8]
  omega
/-- Numbers of two parts, turned part by part. -/
theorem xor_parts (k a b c d : Nat) (ha : a < 2 ^ k) (hc : c < 2 ^ k) : (a + b * 2 ^ k) ^^^ (c + d * 2 ^ k) = (a ^^^ c) + (b ^^^ d) * 2 ^ k := by
  have hp : 0 < 2 ^ k := Nat.pow_pos (by decide)
  have e1 : (a + b * 2 ^ k) % 2 ^ k = a := by rw [Nat.add_mul_mod_self_right, Nat.mod_eq_of_lt ha]
  have e2 : (c + d * 2 ^ k) % 2 ^ k = c := by rw [Nat.add_mul_mod_self_right, Nat.mod_eq_of_lt hc]
  have e3 : (a + b * 2 ^ k) / 2 ^ k = b := by rw [Nat.add_mul_div_right _ _ hp, Nat.div_eq_of_lt ha, Nat.zero_add]
  have e4 : (c + d * 2 ^ k) / 2 ^ k = d := by rw [Nat.add_mul_div_right _ _ hp, Nat.div_eq_of_lt hc, Nat.zero_add]
  have h := Nat.mod_add_div ((a + b * 2 ^ k) ^^^ (c + d * 2 ^ k)) (2 ^ k)
  rw [Nat.xor_mod_two_pow, Nat.xor_div_two_pow, e1, e2, e3, e4, Nat.mul_comm (2 ^ k)] at h
  exact h.symm
theorem pb_xor (f g : Nat → Int) (hf : ∀ q, 0 ≤ f q ∧ f q ≤ 255) (hg : ∀ q, 0 ≤ g q ∧ g q ≤ 255) : ∀ n, n ≤ 8 → pb (fun q => Go.bits .xor .u8 (f q) (g q)) n = Go.bits .xor .u64 (pb f n) (pb g n)
  | 0, _ => by
    simp only [pb]
    exact (xor_zero 0 ⟨by decide, by decide⟩).symm
  | n + 1, h => by
    have ih := pb_xor f g hf hg n (by omega)
    have a1 := pb_in f hf n
    have a2 := pb_in g hg n
    have b1 := pb_in f hf (n + 1)
    have b2 := pb_in g hg (n + 1)
    have c1 := hf n
    have c2 := hg n
    have hB : 2 ^ (8 * (n + 1)) ≤ 2 ^ 64 := Nat.pow_le_pow_right (by decide) (by omega)
    have hC : 2 ^ (8 * n) ≤ 2 ^ 64 := Nat.pow_le_pow_right (by decide) (by omega)
    simp only [pb] at b1 b2 ⊢
    rw [ih]
    clear ih
    obtain ⟨a, ea⟩ := Int.eq_ofNat_of_zero_le a1.1
    obtain ⟨c, ec⟩ := Int.eq_ofNat_of_zero_le a2.1
    obtain ⟨b, eb⟩ := Int.eq_ofNat_of_zero_le c1.1
    obtain ⟨d, ed⟩ := Int.eq_ofNat_of_zero_le c2.1
    rw [ea, eb] at b1 ⊢
    rw [ec, ed] at b2 ⊢
    rw [ea] at a1
    rw [ec] at a2
    rw [eb] at c1
    rw [ed] at c2
    rw [xor64 a c (by omega) (by omega), xor8 b d (by omega) (by omega), ← Int.natCast_mul, ← Int.natCast_mul, ← Int.natCast_mul, ← Int.natCast_add, ← Int.natCast_add, ← Int.natCast_add, xor64 _ _ ?_ ?_]
    · rw [xor_parts (8 * n) a b c d (by omega) (by omega)]
    · have := b1.2
      rw [← Int.natCast_mul, ← Int.natCast_add] at this
      omega
    · have := b2.2
      rw [← Int.natCast_mul, ← Int.natCast_add] at this
      omega
theorem pb_congr {f g : Nat → Int} : ∀ n, (∀ q, q < n → f q = g q) → pb f n = pb g n
  | 0, _ => rfl
  | n + 1, h => by
    simp only [pb]
    rw [pb_congr n (fun q hq => h q (by omega)), h n (by omega)]
theorem pb_pieces (x : Nat) : ∀ n, pb (fun q => (x : Int) / 2 ^ (8 * q) % 256) n = ((x % 2 ^ (8 * n) : Nat) : Int)
  | 0 => by simp [pb, Nat.mod_one]
  | n + 1 => by
    simp only [pb]
    rw [pb_pieces x n, show (2 : Int) ^ (8 * n) = ((2 ^ (8 * n) : Nat) : Int) by rw [Int.natCast_pow]; rfl, ← Int.natCast_ediv, Nat.mul_add, Nat.pow_add, show 2 ^ (8 * 1) = 256 from rfl, Nat.mod_mul]
    rw [Nat.mul_comm (2 ^ (8 * n)) (x / 2 ^ (8 * n) % 256), Int.natCast_add, Int.natCast_mul]
    rfl
/-- A lane, of its own bytes. -/
theorem pb_laneB (W : List Int) (i : Nat) (h : W64 (rd W (i : Int))) : pb (fun q => laneB W (8 * i + q)) 8 = rd W (i : Int) := by
  obtain ⟨x, hx⟩ := Int.eq_ofNat_of_zero_le h.1
  have h2 := h.2
  rw [hx] at h2
  rw [pb_congr (g := fun q => (x : Int) / 2 ^ (8 * q) % 256) 8 ?_, pb_pieces, hx, Nat.mod_eq_of_lt (by omega)]
  intro q hq
  unfold laneB
  rw [show (8 * i + q) / 8 = i by omega, show (8 * i + q) % 8 = q by omega, hx]
theorem laneB_in (W : List Int) (m : Nat) : B8 (laneB W m) := by unfold laneB B8; omega
theorem bt_rd (L : List Int) (hL : ∀ x ∈ L, B8 x) (j : Nat) (hj : j < L.length) : bt (strOfNums L) (j : Int) = rd L (j : Int) := by
  have h := rd_in hL j hj
  rw [rd_get L j hj] at h ⊢
  have hs : j < (strOfNums L).size := by rw [strOfNums_size]; exact hj
  rw [← bt_at (strOfNums L) (j : Int) (by simpa using hs)]
  simp only [Int.toNat_natCast]
  rw [strOfNums_get L j hs, UInt8.toNat_ofNat']
  unfold B8 at h
  omega
theorem bl_strOf (L : List Int) (hL : ∀ x ∈ L, B8 x) : bl (strOfNums L) = L := by
  apply rd_ext (by rw [bl_len, strOfNums_size])
  intro i hi
  rw [bl_len, strOfNums_size] at hi
  rw [← bt_rd L hL i hi, rd_get _ i (by rw [bl_len, strOfNums_size]; exact hi)]
  have hs : i < (strOfNums L).size := by rw [strOfNums_size]; exact hi
  rw [← bt_at (strOfNums L) (i : Int) (by simpa using hs)]
  simp [bl]
  rfl
theorem textA_in (W : List Int) : ∀ x ∈ textA W 200, B8 x := by
  rw [textA_eq]
  intro x hx
  obtain ⟨m, _, rfl⟩ := List.mem_map.mp hx
  exact laneB_in W m
theorem xorA_rd (st T : List Int) (o i : Nat) : ∀ n, n ≤ st.length → rd (xorA st T o n) (i : Int) = if i < n then Go.bits .xor .u8 (rd st (i : Int)) (rd T ((o + i : Nat) : Int)) else rd st (i : Int)
  | 0, _ => by rw [if_neg (by omega)]; rfl
  | n + 1, h => by
    simp only [xorA]
    rw [rd_set _ _ _ _ (by rw [xorA_len]; omega), xorA_rd st T o i n (by omega)]
    by_cases e : i = n
    · subst e
      rw [if_pos rfl, if_pos (by omega), xorA_rd st T o i i (by omega), if_neg (by omega)]
    · rw [if_neg e]
      by_cases e2 : i < n
      · rw [if_pos e2, if_pos (by omega)]
      · rw [if_neg e2, if_neg (by omega)]
theorem xorW_rd (st ls : List Int) (i : Nat) : ∀ n, n ≤ st.length → rd (xorW st ls n) (i : Int) = if i < n then Go.bits .xor .u64 (rd st (i : Int)) (rd ls (i : Int)) else rd st (i : Int)
  | 0, _ => by rw [if_neg (by omega)]; rfl
  | n + 1, h => by
    simp only [xorW]
    rw [rd_set _ _ _ _ (by rw [xorW_len]; omega), xorW_rd st ls i n (by omega)]
    by_cases e : i = n
    · subst e
      rw [if_pos rfl, if_pos (by omega), xorW_rd st ls i i (by omega), if_neg (by omega)]
    · rw [if_neg e]
      by_cases e2 : i < n
      · rw [if_pos e2, if_pos (by omega)]
      · rw [if_neg e2, if_neg (by omega)]
theorem rd_drop_take (T : List Int) (o n i : Nat) (hi : i < n) (h : o + n ≤ T.length) : rd ((T.drop o).take n) (i : Int) = rd T ((o + i : Nat) : Int) := by
  rw [rd_get _ i (by simp; omega), rd_get _ (o + i) (by omega)]
  simp
theorem block_in (T : List Int) (hT : ∀ x ∈ T, B8 x) (n : Nat) : ∀ x ∈ (T.drop (168 * n)).take 168, B8 x := fun x hx => hT x (List.mem_of_mem_drop (List.mem_of_mem_take hx))
/-- A state turned by a block: byte by byte or lane by lane. -/
theorem block_lanes (W T : List Int) (m : Nat) (hl : W.length = 25) (hw : ∀ x ∈ W, W64 x) (hT : ∀ x ∈ T, B8 x) (hm : 168 * m + 168 ≤ T.length) :
    impl_lanesOf.v (strOfNums (xorA (textA W 200) T (168 * m) 168)) = xorW W ((List.range 21).map (laneV (blockB T m))) 21 := by
  have hY : ∀ x ∈ xorA (textA W 200) T (168 * m) 168, B8 x := by
    refine mem_rd fun i hi => ?_
    rw [xorA_len, textA_len] at hi
    rw [xorA_rd _ _ _ _ 168 (by rw [textA_len]; decide)]
    split
    · exact B8.xor _ _
    · exact rd_in (textA_in W) i (by rw [textA_len]; exact hi)
  have hYl : (xorA (textA W 200) T (168 * m) 168).length = 200 := by rw [xorA_len, textA_len]
  have hbyte : ∀ j : Nat, j < 200 → bt (strOfNums (xorA (textA W 200) T (168 * m) 168)) (j : Int) = if j < 168 then Go.bits .xor .u8 (laneB W j) (rd T ((168 * m + j : Nat) : Int)) else laneB W j := by
    intro j hj
    rw [bt_rd _ hY j (by rw [hYl]; exact hj), xorA_rd _ _ _ _ 168 (by rw [textA_len]; decide), textA_rd W j 200 (Nat.le_refl _), if_pos hj]
  have hblk : ∀ j : Nat, j < 168 → bt (blockB T m) (j : Int) = rd T ((168 * m + j : Nat) : Int) := by
    intro j hj
    unfold blockB
    rw [bt_rd _ (block_in T hT m) j (by simp; omega), rd_drop_take T _ 168 j hj (by omega)]
  rw [lanesOf_eq]
  apply rd_ext (by rw [xorW_len, hl]; rfl)
  intro i hi
  have hi : i < 25 := by simpa using hi
  rw [xorW_rd _ _ _ 21 (by rw [hl]; decide), rd_get ((List.range 25).map _) i (by simpa using hi), List.getElem_map, List.getElem_range]
  have hwi := rd_in hw i (by rw [hl]; exact hi)
  by_cases h : i < 21
  · rw [if_pos h, rd_get ((List.range 21).map (laneV (blockB T m))) i (by simpa using h), List.getElem_map, List.getElem_range]
    unfold laneV
    rw [pb_congr (g := fun q => Go.bits .xor .u8 (laneB W (8 * i + q)) (lb (blockB T m) i q)) 8 ?_, pb_xor (fun q => laneB W (8 * i + q)) (lb (blockB T m) i) (fun q => laneB_in W _) (fun q => bt_in _ _) 8 (Nat.le_refl _), pb_laneB W i hwi]
    intro q hq
    unfold lb
    rw [hbyte _ (by omega), if_pos (by omega), hblk _ (by omega)]
  · unfold laneV
    rw [if_neg h, pb_congr (g := fun q => laneB W (8 * i + q)) 8 ?_, pb_laneB W i hwi]
    intro q hq
    unfold lb
    rw [hbyte _ (by omega), if_neg (by omega)]
/-- The lanes behind m blocks. -/
def stW (T : List Int) : Nat → List Int
  | 0 => List.replicate 25 0
  | m + 1 => impl_permuted.v (xorW (stW T m) ((List.range 21).map (laneV (blockB T m))) 21)
theorem xorW_w (st ls : List Int) (h : ∀ x ∈ st, W64 x) : ∀ n, ∀ x ∈ xorW st ls n, W64 x
  | 0 => h
  | n + 1 => by
    intro x hx
    simp only [xorW] at hx
    rcases List.mem_or_eq_of_mem_set hx with h2 | h2
    · exact xorW_w st ls h n x h2
    · rw [h2]; exact W64.xor _ _
theorem stW_ok (T : List Int) : ∀ m, (stW T m).length = 25 ∧ ∀ x ∈ stW T m, W64 x
  | 0 => ⟨by simp [stW], by
    intro x hx
    simp only [stW] at hx
    rw [List.eq_of_mem_replicate hx]
    exact ⟨by decide, by decide⟩⟩
  | m + 1 => by
    have ih := stW_ok T m
    have h1 : (xorW (stW T m) ((List.range 21).map (laneV (blockB T m))) 21).length = 25 := by rw [xorW_len]; exact ih.1
    have h2 := xorW_w (stW T m) ((List.range 21).map (laneV (blockB T m))) ih.2 21
    simp only [stW]
    generalize xorW (stW T m) ((List.range 21).map (laneV (blockB T m))) 21 = a at h1 h2 ⊢
    exact ⟨permA_len a 24 h1, permuted_w a h2⟩
theorem absS_eq (T : List Int) (hT : ∀ x ∈ T, B8 x) : ∀ m, 168 * m ≤ T.length → absS T m = textA (stW T m) 200
  | 0, _ => by
    simp only [absS, stW]
    apply rd_ext (by rw [textA_len, List.length_replicate])
    intro i hi
    rw [List.length_replicate] at hi
    rw [rd_zeros, textA_rd _ i 200 (Nat.le_refl _), if_pos hi]
    unfold laneB
    rw [rd_zeros]
    simp
  | m + 1, h => by
    simp only [absS, permB]
    rw [absS_eq T hT m (by omega), block_lanes _ T m (stW_ok T m).1 (stW_ok T m).2 hT (by omega)]
    unfold impl_text.v
    rw [bl_strOf _ (textA_in _)]
    rfl
theorem absW_ev (T : List Int) (hT : ∀ x ∈ T, B8 x) : ∀ m, 168 * m ≤ T.length → Ev (fun k => absW k T m) (stW T m)
  | 0, _ => Ev.now _
  | m + 1, h => by
    have hs : (blockB T m).size = 8 * 21 := by
      unfold blockB
      rw [strOfNums_size]
      simp
      omega
    have h1 := stW_ok T m
    have h2 := stW_ok T (m + 1)
    have hl : ((List.range 21).map (laneV (blockB T m))).length = 21 := by simp
    refine Ev.bind (absW_ev T hT m (by omega)) (Ev.bind (lanes_ev (blockB T m) 21 hs (by decide)) (Ev.pos ?_ ?_))
    · rw [hl, h1.1]; decide
    · rw [hl]
      have h3 := perm_ev (xorW (stW T m) ((List.range 21).map (laneV (blockB T m))) 21) (by rw [xorW_len]; exact h1.1) (xorW_w _ _ h1.2 21)
      simp only [stW] at h2 ⊢
      refine Ev.bind h3 (Ev.pos ?_ (Ev.now _))
      rw [h2.1]; decide
theorem padT_in (s : ByteArray) (c : Int) (hc : B8 c) : ∀ x ∈ padT s c, B8 x := by
  intro x hx
  unfold padT lastX at hx
  rcases List.mem_or_eq_of_mem_set hx with h | h
  · unfold padZ at h
    rw [List.mem_append, List.mem_append] at h
    rcases h with (h | h) | h
    · unfold bl at h
      obtain ⟨b, _, rfl⟩ := List.mem_map.mp h
      have := b.toNat_lt
      exact ⟨by omega, by omega⟩
    · rw [List.mem_singleton] at h; rw [h]; exact hc
    · rw [List.eq_of_mem_replicate h]; exact ⟨by decide, by decide⟩
  · rw [h]; exact B8.xor _ _
/-- The state that a text leaves. -/
def absV (s : ByteArray) : ByteArray := strOfNums (absS (padT s 31) ((padT s 31).length / 168))
theorem absV_size (s : ByteArray) : (absV s).size = 200 := by unfold absV; rw [strOfNums_size, absS_len]
theorem spec_absorb_ev (s : ByteArray) (hs : s.size ≤ 1000000000000) : Ev (fun k => spec_l07Absorb.f k s 168 31) (absV s) := by
  have hT := padT_in s 31 ⟨by decide, by decide⟩
  have hm : 168 * ((padT s 31).length / 168) ≤ (padT s 31).length := Nat.mul_div_le _ _
  unfold spec_l07Absorb.f
  refine Ev.pos ⟨rfl, hs⟩ (Ev.bind (absW_ev _ hT _ hm) ?_)
  unfold absV
  rw [absS_eq _ hT _ hm]
  exact text_ev _ (stW_ok _ _).2 (stW_ok _ _).1
theorem impl_absorb_ev (s : ByteArray) (hs : s.size ≤ 1000000000000) : Ev (fun k => impl_absorbed.f k s 168 31) (absV s) := by
  unfold impl_absorbed.f
  exact Ev.pos ⟨rfl, hs⟩ (Ev.now _)
end Go.Proofs.Ytnckhligcdieaaa.Pure
namespace Go.Proofs.Ytnckhligcdieaaa.Pure
open Go.RowKit Go.Proofs.YtnckhligcdieaaaW.PrintWords Go.Proofs.YtnckhligcdieaaaW.PrintLast Go.Proofs.YtnckhligcdieaaaW.PrintMore Go.Proofs.Ytnckhligcdieaaa.P Go.Proofs.Ytnckhligcdieaaa.Kit
set_option linter.unusedVariables false
set_option linter.unusedSimpArgs false

theorem cat_empty (s : ByteArray) : (⟨#[]⟩ : ByteArray) ++ s = s := by
  apply bytes_ext
  simp [ByteArray.data_append]
theorem ext_size (s : ByteArray) (a n : Nat) (h : a + n ≤ s.size) : (s.extract a (a + n)).size = n := by
  rw [ByteArray.size_extract]; omega
theorem spec_take_in (s : ByteArray) (a n : Nat) (hs : s.size = 200) (hn : 0 < n) (h : a + n ≤ 168) : Ev (fun k => spec_StreamTake.f k s (a : Int) (n : Int)) (s, ((a + n : Nat) : Int), s.extract a (a + n)) := by
  unfold spec_StreamTake.f
  refine Ev.pos ⟨by omega, by omega, hs, by omega, by omega⟩ ?_
  rw [Int.toNat_natCast, Int.toNat_natCast]
  have hx := ext_size s a n (by omega)
  refine Ev.step (f := fun k => spec_StreamTake.l0 k n (s.extract a (a + n)) s (a + n)) (fun k => ?_) ?_
  · simp only [spec_StreamTake.l0]
    have e0 : (⟨#[]⟩ : ByteArray).size = 0 := rfl
    rw [if_pos (by rw [e0]; exact hn), if_neg (by omega), if_pos ⟨by omega, hs⟩, e0, Nat.sub_zero, Nat.min_eq_right (by omega), cat_empty]
  · refine Ev.step (f := fun _ => some (s, ((a + n : Nat) : Int), s.extract a (a + n))) (fun k => ?_) (Ev.now _)
    simp only [spec_StreamTake.l0]
    rw [if_neg (by omega)]
theorem spec_take_new (s : ByteArray) (n : Nat) (hs : s.size = 200) (hn : 0 < n) (h : n ≤ 168) : Ev (fun k => spec_StreamTake.f k s 168 (n : Int)) (permB s, (n : Int), (permB s).extract 0 n) := by
  unfold spec_StreamTake.f
  refine Ev.pos ⟨by omega, by omega, hs, by omega, by omega⟩ ?_
  rw [Int.toNat_natCast]
  have hp := permB_size s
  have hx := ext_size (permB s) 0 n (by omega)
  rw [Nat.zero_add] at hx
  refine Ev.step (f := fun k => (spec_Permute.f k s).bind fun t => if t.size = 200 then spec_StreamTake.l0 k n (t.extract 0 n) t n else none) (fun k => ?_) (Ev.bind (permute_ev s hs) (Ev.pos hp ?_))
  · simp only [spec_StreamTake.l0]
    have e0 : (⟨#[]⟩ : ByteArray).size = 0 := rfl
    rw [if_pos (by rw [e0]; exact hn), if_pos (by decide), e0, Nat.sub_zero, Nat.min_eq_right (by omega)]
    simp only [cat_empty]
  · refine Ev.step (f := fun _ => some (permB s, (n : Int), (permB s).extract 0 n)) (fun k => ?_) (Ev.now _)
    simp only [spec_StreamTake.l0]
    rw [if_neg (by omega)]
theorem impl_take_open (s : ByteArray) (a n : Nat) (r : ByteArray × Int × ByteArray) (hs : s.size = 200) (hn : n ≤ 168) (ha : a ≤ 168) (h : Ev (fun k => impl_StreamTake.l0 k (n : Int) (⟨#[]⟩ : ByteArray) s (a : Int)) r) : Ev (fun k => impl_StreamTake.f k s (a : Int) (n : Int)) r := by
  unfold impl_StreamTake.f
  have e1 : impl_in.f (n : Int) 0 4000 = some true := (some_in _ _ _).trans (by rw [decide_eq_true]; omega)
  have e2 : impl_in.f (a : Int) 0 168 = some true := (some_in _ _ _).trans (by rw [decide_eq_true]; omega)
  refine Ev.then e1 (Ev.pos rfl (Ev.pos (by omega) (Ev.then e2 ?_)))
  refine Ev.step (fun k => ?_) h
  simp only [impl_StreamTake.j0]
  rw [if_neg (by decide)]
theorem impl_take_in (s : ByteArray) (a n : Nat) (hs : s.size = 200) (hn : 0 < n) (h : a + n ≤ 168) : Ev (fun k => impl_StreamTake.f k s (a : Int) (n : Int)) (s, ((a + n : Nat) : Int), s.extract a (a + n)) := by
  refine impl_take_open s a n _ hs (by omega) (by omega) ?_
  have hx := ext_size s a n (by omega)
  have e0 : (⟨#[]⟩ : ByteArray).size = 0 := rfl
  have e1 : wrap64 ((n : Int) - ((⟨#[]⟩ : ByteArray).size : Int)) = (n : Int) := by rw [e0, w64 (by omega) (by omega)]; omega
  have e2 : wrap64 (168 - (a : Int)) = ((168 - a : Nat) : Int) := by rw [w64 (by omega) (by omega)]; omega
  have e3 : mn (n : Int) ((168 - a : Nat) : Int) = (n : Int) := by unfold mn; rw [if_neg (by omega)]
  have e4 : wrap64 ((a : Int) + (n : Int)) = ((a + n : Nat) : Int) := by rw [w64 (by omega) (by omega)]; omega
  refine Ev.step (f := fun k => impl_StreamTake.l0 k (n : Int) (s.extract a (a + n)) s ((a + n : Nat) : Int)) (fun k => ?_) ?_
  · simp only [impl_StreamTake.l0, e1, e2, e3, e4]
    rw [if_pos (by rw [e0]; omega), if_neg (by omega), if_pos (by omega), if_pos (by omega), if_pos (by omega), Int.toNat_natCast, Int.toNat_natCast, if_pos (by rw [e0, hx]; omega), cat_empty]
  · refine Ev.step (f := fun _ => some (s, ((a + n : Nat) : Int), s.extract a (a + n))) (fun k => ?_) (Ev.now _)
    simp only [impl_StreamTake.l0]
    rw [if_neg (by omega)]
theorem impl_take_new (s : ByteArray) (n : Nat) (hs : s.size = 200) (hn : 0 < n) (h : n ≤ 168) : Ev (fun k => impl_StreamTake.f k s 168 (n : Int)) (permB s, (n : Int), (permB s).extract 0 n) := by
  refine impl_take_open s 168 n _ hs (by omega) (by omega) ?_
  have hp := permB_size s
  have hx := ext_size (permB s) 0 n (by omega)
  rw [Nat.zero_add] at hx
  have e0 : (⟨#[]⟩ : ByteArray).size = 0 := rfl
  have e1 : wrap64 ((n : Int) - ((⟨#[]⟩ : ByteArray).size : Int)) = (n : Int) := by rw [e0, w64 (by omega) (by omega)]; omega
  have e3 : mn (n : Int) 168 = (n : Int) := by unfold mn; rw [if_neg (by omega)]
  have e4 : wrap64 (0 + (n : Int)) = (n : Int) := by rw [w64 (by omega) (by omega)]; omega
  refine Ev.step (f := fun k => impl_StreamTake.l0 k (n : Int) ((permB s).extract 0 n) (permB s) (n : Int)) (fun k => ?_) ?_
  · simp only [impl_StreamTake.l0, e1, e3, e4, permB_f s hs, Option.bind_some]
    rw [if_pos (by rw [e0]; omega), if_pos (by rfl), if_pos (by omega), if_pos (by omega), Int.toNat_natCast, if_pos (by rw [e0, hx]; omega), cat_empty]
  · refine Ev.step (f := fun _ => some (permB s, (n : Int), (permB s).extract 0 n)) (fun k => ?_) (Ev.now _)
    simp only [impl_StreamTake.l0]
    rw [if_neg (by omega)]
theorem spec_new_ev (s : ByteArray) (hs : s.size ≤ 1000000000000) : Ev (fun k => spec_StreamNew.f k s) (absV s, 0) := by
  unfold spec_StreamNew.f
  exact Ev.bind (spec_absorb_ev s hs) (Ev.now _)
theorem impl_new_ev (s : ByteArray) (hs : s.size ≤ 1000000000000) : Ev (fun k => impl_StreamNew.f k s) (absV s, 0) := by
  unfold impl_StreamNew.f
  exact Ev.bind (impl_absorb_ev s hs) (Ev.now _)
/-- The first n bytes that a text gives. -/
def shakeV (s : ByteArray) (n : Nat) : ByteArray := (absV s).extract 0 n
theorem spec_shake_ev (s : ByteArray) (hs : s.size ≤ 1000000000000) : Ev (fun k => spec_ShakeOf.f k s 128) (shakeV s 128, true) := by
  unfold spec_ShakeOf.f
  have h := spec_take_in (absV s) 0 128 (absV_size s) (by decide) (by decide)
  have e1 : spec_l01In.f 128 0 4000 = some true := by rfl
  exact Ev.then e1 (Ev.pos rfl (Ev.bind (spec_new_ev s hs) (Ev.bind h (Ev.now _))))
theorem impl_shake_ev (s : ByteArray) (hs : s.size ≤ 1000000000000) : Ev (fun k => impl_ShakeOf.f k s 128) (shakeV s 128, true) := by
  unfold impl_ShakeOf.f
  have h := impl_take_in (absV s) 0 128 (absV_size s) (by decide) (by decide)
  have e1 : impl_in.f 128 0 4000 = some true := by rfl
  exact Ev.then e1 (Ev.pos rfl (Ev.bind (impl_new_ev s hs) (Ev.bind h (Ev.now _))))
end Go.Proofs.Ytnckhligcdieaaa.Pure
namespace Go.Proofs.Ytnckhligcdieaaa.Pure
open Go.RowKit Go.Proofs.YtnckhligcdieaaaW.PrintWords Go.Proofs.YtnckhligcdieaaaW.PrintLast Go.Proofs.YtnckhligcdieaaaW.PrintMore Go.Proofs.Ytnckhligcdieaaa.P Go.Proofs.Ytnckhligcdieaaa.Kit
set_option linter.unusedVariables false
set_option linter.unusedSimpArgs false

def oneB (n : Int) : ByteArray := strOfNums [n % 256]
theorem oneB_size (n : Int) : (oneB n).size = 1 := by simp [oneB, strOfNums_size]
theorem oneB_impl (n : Int) : impl_oneByte.f n = some (oneB n) := rfl
theorem oneB_spec (n : Int) : spec_l06Byte.f n = some (oneB n) := by
  have h := Int.mul_tdiv_add_tmod n 256
  have h1 := Int.tmod_lt_of_pos n (show (0 : Int) < 256 by decide)
  have h2 := Int.lt_tmod_of_pos n (show (0 : Int) < 256 by decide)
  have h3 : (Int.tmod n 256) % 256 = n % 256 := by omega
  unfold spec_l06Byte.f oneB
  split
  · rw [w64 (by omega) (by omega), show (Int.tmod n 256 + 256) % 256 = n % 256 by omega]
  · rw [h3]
/-- A coefficient of four bits. -/
def cb (v : Int) : Int := (v % 2 + v / 2 % 2 - v / 4 % 2 - v / 8 % 2 + 3329) % 3329
theorem cb_hi (b : Int) (h0 : 0 ≤ b) (h1 : b ≤ 255) : Int.tmod (wrap64 ((wrap64 ((wrap64 ((wrap64 ((Int.tmod (wrap64 (Int.tdiv (wrap64 b) 16)) 2) + (Int.tmod (wrap64 (Int.tdiv (wrap64 (Int.tdiv (wrap64 b) 16)) 2)) 2))) - (Int.tmod (wrap64 (Int.tdiv (wrap64 (Int.tdiv (wrap64 b) 16)) 4)) 2))) - (Int.tmod (wrap64 (Int.tdiv (wrap64 (Int.tdiv (wrap64 b) 16)) 8)) 2))) + 3329)) 3329 = cb (b / 16) := by
  have h : ((List.range 256).all fun n : Nat => decide (Int.tmod (wrap64 ((wrap64 ((wrap64 ((wrap64 ((Int.tmod (wrap64 (Int.tdiv (wrap64 (n : Int)) 16)) 2) + (Int.tmod (wrap64 (Int.tdiv (wrap64 (Int.tdiv (wrap64 (n : Int)) 16)) 2)) 2))) - (Int.tmod (wrap64 (Int.tdiv (wrap64 (Int.tdiv (wrap64 (n : Int)) 16)) 4)) 2))) - (Int.tmod (wrap64 (Int.tdiv (wrap64 (Int.tdiv (wrap64 (n : Int)) 16)) 8)) 2))) + 3329)) 3329 = cb ((n : Int) / 16))) = true := by kernel_rfl
  obtain ⟨n, rfl⟩ := Int.eq_ofNat_of_zero_le h0
  exact of_decide_eq_true (List.all_eq_true.mp h n (List.mem_range.mpr (by omega)))
theorem cb_lo (b : Int) (h0 : 0 ≤ b) (h1 : b ≤ 255) : Int.tmod (wrap64 ((wrap64 ((wrap64 ((wrap64 ((Int.tmod (wrap64 b) 2) + (Int.tmod (wrap64 (Int.tdiv (wrap64 b) 2)) 2))) - (Int.tmod (wrap64 (Int.tdiv (wrap64 b) 4)) 2))) - (Int.tmod (wrap64 (Int.tdiv (wrap64 b) 8)) 2))) + 3329)) 3329 = cb b := by
  have h : ((List.range 256).all fun n : Nat => decide (Int.tmod (wrap64 ((wrap64 ((wrap64 ((wrap64 ((Int.tmod (wrap64 (n : Int)) 2) + (Int.tmod (wrap64 (Int.tdiv (wrap64 (n : Int)) 2)) 2))) - (Int.tmod (wrap64 (Int.tdiv (wrap64 (n : Int)) 4)) 2))) - (Int.tmod (wrap64 (Int.tdiv (wrap64 (n : Int)) 8)) 2))) + 3329)) 3329 = cb (n : Int))) = true := by kernel_rfl
  obtain ⟨n, rfl⟩ := Int.eq_ofNat_of_zero_le h0
  exact of_decide_eq_true (List.all_eq_true.mp h n (List.mem_range.mpr (by omega)))
theorem cb_impl (b : Int) (m : Nat) (h0 : 0 ≤ b) (h1 : b ≤ 255) (hm : m < 2) : impl_modQ.f (wrap64 ((wrap64 ((wrap64 ((Go.bits .and .i64 (wrap64 (shr .u8 b (wrap64 (4 * (m : Int))))) 1) + (Go.bits .and .i64 ((wrap64 (shr .u8 b (wrap64 (4 * (m : Int))))) / 2) 1))) - (Go.bits .and .i64 ((wrap64 (shr .u8 b (wrap64 (4 * (m : Int))))) / 4) 1))) - (Go.bits .and .i64 ((wrap64 (shr .u8 b (wrap64 (4 * (m : Int))))) / 8) 1))) = some (cb (if m = 1 then b / 16 else b)) := by
  have h : ((List.range 256).all fun n : Nat => (List.range 2).all fun m : Nat => decide (impl_modQ.f (wrap64 ((wrap64 ((wrap64 ((Go.bits .and .i64 (wrap64 (shr .u8 (n : Int) (wrap64 (4 * (m : Int))))) 1) + (Go.bits .and .i64 ((wrap64 (shr .u8 (n : Int) (wrap64 (4 * (m : Int))))) / 2) 1))) - (Go.bits .and .i64 ((wrap64 (shr .u8 (n : Int) (wrap64 (4 * (m : Int))))) / 4) 1))) - (Go.bits .and .i64 ((wrap64 (shr .u8 (n : Int) (wrap64 (4 * (m : Int))))) / 8) 1))) = some (cb (if m = 1 then (n : Int) / 16 else (n : Int))))) = true := by kernel_rfl
  obtain ⟨n, rfl⟩ := Int.eq_ofNat_of_zero_le h0
  exact of_decide_eq_true (List.all_eq_true.mp (List.all_eq_true.mp h n (List.mem_range.mpr (by omega))) m (List.mem_range.mpr hm))
/-- The coefficient i of the bytes t. -/
def cbAt (t : ByteArray) (i : Nat) : Int := cb (if i % 2 = 1 then bt t ((i / 2 : Nat) : Int) / 16 else bt t ((i / 2 : Nat) : Int))
def smallL (t : ByteArray) : List Int := (List.range 256).map (cbAt t)
theorem smallL_len (t : ByteArray) : (smallL t).length = 256 := by unfold smallL; simp
theorem smallL_get (t : ByteArray) (i : Nat) (h : i < (smallL t).length) : (smallL t)[i] = cbAt t i := by
  simp only [smallL, List.getElem_map, List.getElem_range]
theorem spec_small_loop (t : ByteArray) (ht : t.size = 128) : Ev (fun k => spec_Small.l0 k ([] : List Int) t 0) (smallL t) := by
  have hl := smallL_len t
  refine Ev.up (g := fun i k => spec_Small.l0 k ((smallL t).take i) t (i : Int)) 256 ?_ ?_ 0 (Nat.zero_le _)
  · intro i hi hh
    have hv := smallL_get t i (by omega)
    rw [← take_snoc (smallL t) i (by omega), hv] at hh
    refine Ev.step (fun k => ?_) hh
    have e1 : wrap64 (Int.tdiv (i : Int) 2) = ((i / 2 : Nat) : Int) := by rw [Int.tdiv_eq_ediv_of_nonneg (by omega), w64 (by omega) (by omega)]; omega
    have hb := bt_range t ((i / 2 : Nat) : Int)
    have hlen : ((smallL t).take i).length = i := by rw [List.length_take, hl]; omega
    have e2 : Int.tmod (i : Int) 2 = ((i % 2 : Nat) : Int) := by rw [Int.tmod_eq_emod_of_nonneg (by omega)]; omega
    unfold cbAt
    simp only [spec_Small.l0, e1, e2]
    rw [if_pos (by omega), if_pos (by omega), if_pos (by omega)]
    by_cases hp : i % 2 = 1
    · rw [if_pos (by omega), if_pos hp, if_pos (by omega), cb_hi _ (by omega) (by omega), w64s i (by omega)]
    · rw [if_neg (by omega), if_neg hp, if_pos (by omega), cb_lo _ (by omega) (by omega), w64s i (by omega)]
  · refine Ev.step (f := fun _ => some (smallL t)) (fun k => ?_) (Ev.now _)
    simp only [spec_Small.l0]
    rw [if_neg (by omega), List.take_of_length_le (by omega)]
theorem impl_small_loop (t : ByteArray) (ht : t.size = 128) : Ev (fun k => impl_Small.l0 k t (List.replicate 256 0) 256 0) (smallL t) := by
  have hl := smallL_len t
  have e0 : (smallL t).take 0 ++ List.replicate ((smallL t).length - 0) 0 = List.replicate 256 0 := by rw [hl, List.take_zero, List.nil_append, Nat.sub_zero]
  rw [← e0]
  refine Ev.up (g := fun i k => impl_Small.l0 k t ((smallL t).take i ++ List.replicate ((smallL t).length - i) 0) 256 (i : Int)) 256 ?_ ?_ 0 (Nat.zero_le _)
  · intro i hi hh
    have hv := smallL_get t i (by omega)
    rw [← set_fill (smallL t) 0 i (by omega), hv] at hh
    refine Ev.step (fun k => ?_) hh
    have e1 : wrap64 (Int.tdiv (i : Int) 2) = ((i / 2 : Nat) : Int) := by rw [Int.tdiv_eq_ediv_of_nonneg (by omega), w64 (by omega) (by omega)]; omega
    have hb := bt_range t ((i / 2 : Nat) : Int)
    have hlen : ((smallL t).take i ++ List.replicate ((smallL t).length - i) 0).length = 256 := by rw [List.length_append, List.length_take, List.length_replicate, hl]; omega
    have e2 : Int.tmod (i : Int) 2 = ((i % 2 : Nat) : Int) := by rw [Int.tmod_eq_emod_of_nonneg (by omega)]; omega
    have e3 := cb_impl (bt t ((i / 2 : Nat) : Int)) (i % 2) (by omega) (by omega) (by omega)
    have c1 : (i : Int) < 256 := by omega
    have c2 : (0 : Int) ≤ ((i / 2 : Nat) : Int) := by omega
    have c3 : ((i / 2 : Nat) : Int) < (t.size : Int) := by omega
    have c4 : 0 ≤ wrap64 (4 * ((i % 2 : Nat) : Int)) := by rw [w64 (by omega) (by omega)]; omega
    have c5 : (0 : Int) ≤ (i : Int) := by omega
    have c6 : (i : Int) < (((smallL t).take i ++ List.replicate ((smallL t).length - i) 0).length : Int) := by rw [hlen]; omega
    have c7 := w64s i (by omega)
    unfold cbAt
    simp only [impl_Small.l0, e1, e2]
    rw [if_pos c1, if_pos c2, if_pos c3, if_pos c4, e3, Option.bind_some, if_pos c5, if_pos c6, c7, Int.toNat_natCast]
  · refine Ev.step (f := fun _ => some (smallL t)) (fun k => ?_) (Ev.now _)
    simp only [impl_Small.l0]
    rw [if_neg (by omega), List.take_of_length_le (by omega), hl, Nat.sub_self, List.replicate_zero, List.append_nil]
def smallV (s : ByteArray) (n : Int) : List Int := smallL (shakeV (s ++ oneB n) 128)
theorem smallV_len (s : ByteArray) (n : Int) : (smallV s n).length = 256 := smallL_len _
theorem shake_size (s : ByteArray) : (shakeV s 128).size = 128 := by
  unfold shakeV
  rw [ByteArray.size_extract, absV_size]
  omega
theorem spec_Small_ev (s : ByteArray) (n : Int) (hs : s.size ≤ 1048576) : Ev (fun k => spec_Small.f k s n) (smallV s n) := by
  unfold spec_Small.f
  have h1 := oneB_size n
  exact Ev.then (oneB_spec n) (Ev.pos (by omega) (Ev.bind (spec_shake_ev _ (by rw [ByteArray.size_append]; omega)) (spec_small_loop _ (shake_size _))))
theorem impl_Small_ev (s : ByteArray) (n : Int) (hs : s.size ≤ 1048576) : Ev (fun k => impl_Small.f k s n) (smallV s n) := by
  unfold impl_Small.f
  have h1 := oneB_size n
  refine Ev.then (oneB_impl n) (Ev.pos (by omega) (Ev.bind (impl_shake_ev _ (by rw [ByteArray.size_append]; omega)) (Ev.pos (by decide) (Ev.then (a := List.replicate 256 0) rfl ?_))))
  rw [List.length_replicate]
  exact impl_small_loop _ (shake_size _)
end Go.Proofs.Ytnckhligcdieaaa.Pure
namespace Go.Proofs.Ytnckhligcdieaaa.Pure
open Go.RowKit Go.Proofs.YtnckhligcdieaaaW.PrintWords Go.Proofs.YtnckhligcdieaaaW.PrintLast Go.Proofs.YtnckhligcdieaaaW.PrintMore Go.Proofs.Ytnckhligcdieaaa.P Go.Proofs.Ytnckhligcdieaaa.Kit
set_option linter.unusedVariables false
set_option linter.unusedSimpArgs false

/-- A number taken in, where it is small enough and there is room. -/
def put (l : List Int) (v : Int) : List Int := if v < 3329 ∧ l.length < 256 then l ++ [v] else l
theorem put_len (l : List Int) (v : Int) (h : l.length ≤ 256) : (put l v).length ≤ 256 := by
  unfold put
  split
  · rw [List.length_append, List.length_singleton]; omega
  · exact h
def lowV (b0 b1 : Int) : Int := b0 + 256 * (b1 % 16)
def highV (b1 b2 : Int) : Int := b1 / 16 + 16 * b2
/-- Three bytes taken in. -/
def take3 (l : List Int) (b0 b1 b2 : Int) : List Int := put (put l (lowV b0 b1)) (highV b1 b2)
theorem take3_len (l : List Int) (b0 b1 b2 : Int) (h : l.length ≤ 256) : (take3 l b0 b1 b2).length ≤ 256 := put_len _ _ (put_len _ _ h)
/-- The state of block m of the stream. -/
def blkS (s : ByteArray) : Nat → ByteArray
  | 0 => s
  | m + 1 => permB (blkS s m)
theorem blkS_size (s : ByteArray) (hs : s.size = 200) : ∀ m, (blkS s m).size = 200
  | 0 => hs
  | m + 1 => permB_size _
/-- Byte q of the round i. -/
def rb (s : ByteArray) (i q : Nat) : Int := bt (blkS s (i / 56)) ((3 * (i % 56) + q : Nat) : Int)
def roundU (s : ByteArray) (l : List Int) (i : Nat) : List Int := take3 l (rb s i 0) (rb s i 1) (rb s i 2)
theorem roundU_len (s : ByteArray) (l : List Int) (i : Nat) (h : l.length ≤ 256) : (roundU s l i).length ≤ 256 := take3_len _ _ _ _ h
/-- What n rounds more make, i of them gone. -/
def goU (s : ByteArray) : Nat → List Int → Nat → List Int
  | 0, l, i => l
  | n + 1, l, i => if l.length < 256 then goU s n (roundU s l i) (i + 1) else l
def uniL (s : ByteArray) : List Int := goU s 4000 [] 0
theorem goU_len (s : ByteArray) : ∀ n l i, l.length ≤ 256 → (goU s n l i).length ≤ 256
  | 0, l, i, h => h
  | n + 1, l, i, h => by
    simp only [goU]
    split
    · exact goU_len s n _ _ (roundU_len s l i h)
    · exact h
def fill (l : List Int) : List Int := l ++ List.replicate (256 - l.length) 0
theorem fill_len (l : List Int) (h : l.length ≤ 256) : (fill l).length = 256 := by
  unfold fill
  rw [List.length_append, List.length_replicate]; omega
theorem bt_ext (s : ByteArray) (a n j : Nat) (h : a + n ≤ s.size) (hj : j < n) : bt (s.extract a (a + n)) (j : Int) = bt s ((a + j : Nat) : Int) := by
  have hs : j < (s.extract a (a + n)).size := by rw [ext_size s a n h]; exact hj
  rw [← bt_at (s.extract a (a + n)) (j : Int) (by simpa using hs), ← bt_at s ((a + j : Nat) : Int) (by simp; omega)]
  simp only [Int.toNat_natCast]
  rw [ByteArray.getElem_extract]
/-- The reference fills up with zeros. -/
theorem spec_fill (l : List Int) (h : l.length ≤ 256) : Ev (fun k => spec_Uniform.l1 k l) (fill l) := by
  obtain ⟨d, hd⟩ : ∃ d, d = 256 - l.length := ⟨_, rfl⟩
  induction d generalizing l with
  | zero =>
    refine Ev.step (f := fun _ => some (fill l)) (fun k => ?_) (Ev.now _)
    simp only [spec_Uniform.l1]
    rw [if_neg (by omega)]
    unfold fill
    rw [← hd, List.replicate_zero, List.append_nil]
  | succ d ih =>
    have h1 := ih (l ++ [0]) (by rw [List.length_append, List.length_singleton]; omega) (by rw [List.length_append, List.length_singleton]; omega)
    have e : fill (l ++ [0]) = fill l := by
      unfold fill
      rw [List.length_append, List.length_singleton, show 256 - l.length = 256 - (l.length + 1) + 1 by omega, List.replicate_succ, List.append_assoc]
      rfl
    rw [e] at h1
    refine Ev.step (fun k => ?_) h1
    simp only [spec_Uniform.l1]
    rw [if_pos (by omega), if_pos (by omega)]
theorem low_spec (b0 b1 : Int) (h0 : 0 ≤ b0 ∧ b0 ≤ 255) (h1 : 0 ≤ b1 ∧ b1 ≤ 255) : wrap64 ((wrap64 b0) + (wrap64 (256 * (Int.tmod (wrap64 b1) 16)))) = lowV b0 b1 := by
  have e0 : wrap64 b0 = b0 := w64 (by omega) (by omega)
  have e1 : wrap64 b1 = b1 := w64 (by omega) (by omega)
  rw [e0, e1, Int.tmod_eq_emod_of_nonneg h1.1]
  have e2 : wrap64 (256 * (b1 % 16)) = 256 * (b1 % 16) := w64 (by omega) (by omega)
  rw [e2]
  exact w64 (by omega) (by omega)
theorem high_spec (b1 b2 : Int) (h1 : 0 ≤ b1 ∧ b1 ≤ 255) (h2 : 0 ≤ b2 ∧ b2 ≤ 255) : wrap64 ((wrap64 (Int.tdiv (wrap64 b1) 16)) + (wrap64 (16 * (wrap64 b2)))) = highV b1 b2 := by
  have e0 : wrap64 b2 = b2 := w64 (by omega) (by omega)
  have e1 : wrap64 b1 = b1 := w64 (by omega) (by omega)
  rw [e0, e1, Int.tdiv_eq_ediv_of_nonneg h1.1]
  have e2 : wrap64 (16 * b2) = 16 * b2 := w64 (by omega) (by omega)
  have e3 : wrap64 (b1 / 16) = b1 / 16 := w64 (by omega) (by omega)
  rw [e2, e3]
  exact w64 (by omega) (by omega)
theorem low_impl (b0 b1 : Int) (h0 : 0 ≤ b0 ∧ b0 ≤ 255) (h1 : 0 ≤ b1 ∧ b1 ≤ 255) : wrap64 ((wrap64 b0) + (wrap64 ((Int.tmod (wrap64 b1) 16) * 256))) = lowV b0 b1 := by
  rw [← low_spec b0 b1 h0 h1, Int.mul_comm]

theorem put_in (l : List Int) (v : Int) (h1 : v < 3329) (h2 : l.length < 256) : put l v = l ++ [v] := if_pos ⟨h1, h2⟩
theorem put_out (l : List Int) (v : Int) (h : ¬ (v < 3329 ∧ l.length < 256)) : put l v = l := if_neg h
/-- Where the reference stands ahead of round i. -/
def StS (s : ByteArray) (i : Nat) (x9 str : ByteArray) (at_ : Int) : Prop :=
  (i % 56 ≠ 0 ∧ x9 = (blkS s (i / 56)).extract 0 168 ∧ str = blkS s (i / 56) ∧ at_ = 168) ∨ (i = 0 ∧ str = s ∧ at_ = 0) ∨ (i % 56 = 0 ∧ 0 < i ∧ str = blkS s (i / 56 - 1) ∧ at_ = 168)
theorem StS.next (s : ByteArray) (i : Nat) : StS s (i + 1) ((blkS s (i / 56)).extract 0 168) (blkS s (i / 56)) 168 := by
  unfold StS
  by_cases h : (i + 1) % 56 = 0
  · exact Or.inr (Or.inr ⟨h, by omega, by rw [show (i + 1) / 56 - 1 = i / 56 by omega], rfl⟩)
  · exact Or.inl ⟨h, by rw [show (i + 1) / 56 = i / 56 by omega], by rw [show (i + 1) / 56 = i / 56 by omega], rfl⟩
theorem spec_three (k : Nat) (s : ByteArray) (hs : s.size = 200) (l : List Int) (hl : l.length < 256) (i : Nat) (hi : i < 4000) : spec_Uniform.j2 (k + 1) l ((blkS s (i / 56)).extract 0 168) (i : Int) ((3 * (i % 56) : Nat) : Int) (blkS s (i / 56)) 168 = spec_Uniform.l0 k (roundU s l i) ((blkS s (i / 56)).extract 0 168) ((i + 1 : Nat) : Int) (blkS s (i / 56)) 168 := by
  have hB := blkS_size s hs (i / 56)
  have hz : ((blkS s (i / 56)).extract 0 168).size = 168 := by rw [ByteArray.size_extract]; omega
  have w1 : wrap64 (((3 * (i % 56) : Nat) : Int) + 1) = ((3 * (i % 56) + 1 : Nat) : Int) := by rw [w64 (by omega) (by omega)]; rfl
  have w2 : wrap64 (((3 * (i % 56) : Nat) : Int) + 2) = ((3 * (i % 56) + 2 : Nat) : Int) := by rw [w64 (by omega) (by omega)]; rfl
  have w3 := w64s i (by omega)
  have c1 : (0 : Int) ≤ ((3 * (i % 56) : Nat) : Int) := by omega
  have c2 : ((3 * (i % 56) : Nat) : Int) < (((blkS s (i / 56)).extract 0 168).size : Int) := by rw [hz]; omega
  have c3 : (0 : Int) ≤ ((3 * (i % 56) + 1 : Nat) : Int) := by omega
  have c4 : ((3 * (i % 56) + 1 : Nat) : Int) < (((blkS s (i / 56)).extract 0 168).size : Int) := by rw [hz]; omega
  have c5 : (0 : Int) ≤ ((3 * (i % 56) + 2 : Nat) : Int) := by omega
  have c6 : ((3 * (i % 56) + 2 : Nat) : Int) < (((blkS s (i / 56)).extract 0 168).size : Int) := by rw [hz]; omega
  have c7 : l.length < 17592186044416 := by omega
  have c8 : (l.length : Int) < 256 := by omega
  have hb : ∀ q, q < 3 → bt ((blkS s (i / 56)).extract 0 168) ((3 * (i % 56) + q : Nat) : Int) = rb s i q := by
    intro q hq
    have := bt_ext (blkS s (i / 56)) 0 168 (3 * (i % 56) + q) (by omega) (by omega)
    rw [Nat.zero_add, Nat.zero_add] at this
    exact this
  have r0 : 0 ≤ rb s i 0 ∧ rb s i 0 ≤ 255 := bt_in _ _
  have r1 : 0 ≤ rb s i 1 ∧ rb s i 1 ≤ 255 := bt_in _ _
  have r2 : 0 ≤ rb s i 2 ∧ rb s i 2 ≤ 255 := bt_in _ _
  have e0 : bt ((blkS s (i / 56)).extract 0 168) ((3 * (i % 56) : Nat) : Int) = rb s i 0 := hb 0 (by decide)
  have e1 := hb 1 (by decide)
  have e2 := hb 2 (by decide)
  simp only [spec_Uniform.j2, w1, w2, w3, e0, e1, e2]
  rw [if_pos c1, if_pos c2, if_pos c3, if_pos c4, if_pos c5, if_pos c6, low_spec _ _ r0 r1, high_spec _ _ r1 r2]
  clear e0 e1 e2 r0 r1 r2 hb w1 w2 w3 c1 c2 c3 c4 c5 c6 hz hB
  unfold roundU take3
  generalize lowV (rb s i 0) (rb s i 1) = v
  generalize highV (rb s i 1) (rb s i 2) = u
  by_cases hv : v < 3329
  · rw [if_pos hv, if_pos c7, put_in l v hv hl, Option.bind_some]
    by_cases hu : u < 3329
    · rw [if_pos hu]
      by_cases hq : (l ++ [v]).length < 256
      · rw [if_pos (by omega), if_pos (by omega), put_in _ u hu hq]
      · rw [if_neg (by omega), put_out _ u (by omega)]
    · rw [if_neg hu, put_out _ u (by omega)]
  · rw [if_neg hv, put_out l v (by omega)]
    by_cases hu : u < 3329
    · rw [if_pos hu, if_pos c8, if_pos c7, put_in _ u hu hl]
    · rw [if_neg hu, put_out _ u (by omega)]
theorem spec_round (s : ByteArray) (hs : s.size = 200) (l : List Int) (hl : l.length < 256) (i : Nat) (hi : i < 4000) (x9 str : ByteArray) (a : Int) (h : StS s i x9 str a) (r : List Int)
    (hr : Ev (fun k => spec_Uniform.l0 k (roundU s l i) ((blkS s (i / 56)).extract 0 168) ((i + 1 : Nat) : Int) (blkS s (i / 56)) 168) r) : Ev (fun k => spec_Uniform.j1 k l x9 (i : Int) true str a) r := by
  have e1 : wrap64 (Int.tmod (i : Int) 56 * 3) = ((3 * (i % 56) : Nat) : Int) := by
    rw [Int.tmod_eq_emod_of_nonneg (by omega), w64 (by omega) (by omega)]; omega
  have h3 : Ev (fun k => spec_Uniform.j2 k l ((blkS s (i / 56)).extract 0 168) (i : Int) ((3 * (i % 56) : Nat) : Int) (blkS s (i / 56)) 168) r := Ev.step (fun k => spec_three k s hs l hl i hi) hr
  rcases h with ⟨h1, rfl, rfl, rfl⟩ | h
  · refine Ev.step (fun k => ?_) h3
    simp only [spec_Uniform.j1, e1]
    rw [if_pos trivial, if_neg (by omega)]
  · have hz : i % 56 = 0 := by omega
    have ht : Ev (fun k => spec_StreamTake.f k str a 168) (blkS s (i / 56), 168, (blkS s (i / 56)).extract 0 168) := by
      rcases h with ⟨rfl, rfl, rfl⟩ | ⟨_, hp, rfl, rfl⟩
      · exact spec_take_in str 0 168 hs (by decide) (by decide)
      · have := spec_take_new (blkS s (i / 56 - 1)) 168 (blkS_size s hs _) (by decide) (by decide)
        have e : permB (blkS s (i / 56 - 1)) = blkS s (i / 56) := by
          obtain ⟨m, hm⟩ : ∃ m, i / 56 = m + 1 := ⟨i / 56 - 1, by omega⟩
          rw [hm]; rfl
        rw [e] at this
        exact this
    refine Ev.step (f := fun k => (spec_StreamTake.f k str a 168).bind fun bt249 => spec_Uniform.j2 k l bt249.2.2 (i : Int) ((3 * (i % 56) : Nat) : Int) bt249.1 bt249.2.1) (fun k => ?_) (Ev.bind ht h3)
    simp only [spec_Uniform.j1, e1]
    rw [if_pos trivial, if_pos (by omega)]
theorem spec_rounds (s : ByteArray) (hs : s.size = 200) : ∀ n l i x9 str a, n + i = 4000 → l.length ≤ 256 → StS s i x9 str a → Ev (fun k => spec_Uniform.l0 k l x9 (i : Int) str a) (fill (goU s n l i))
  | 0, l, i, x9, str, a, hn, hl, h => by
    refine Ev.step (f := fun k => spec_Uniform.j1 k l x9 (i : Int) false str a) (fun k => ?_) (Ev.step (fun k => ?_) (spec_fill l hl))
    · simp only [spec_Uniform.l0]
      rw [if_neg (by omega)]
    · simp only [spec_Uniform.j1]
      rw [if_neg (by decide)]
  | n + 1, l, i, x9, str, a, hn, hl, h => by
    simp only [goU]
    by_cases hq : l.length < 256
    · rw [if_pos hq]
      have ih := spec_rounds s hs n (roundU s l i) (i + 1) _ _ 168 (by omega) (roundU_len s l i hl) (StS.next s i)
      refine Ev.step (fun k => ?_) (spec_round s hs l hq i (by omega) x9 str a h _ ih)
      simp only [spec_Uniform.l0]
      rw [if_pos (by omega), decide_eq_true (by omega)]
    · rw [if_neg hq]
      refine Ev.step (f := fun k => spec_Uniform.j1 k l x9 (i : Int) false str a) (fun k => ?_) (Ev.step (fun k => ?_) (spec_fill l hl))
      · simp only [spec_Uniform.l0]
        rw [if_pos (by omega), decide_eq_false (by omega)]
      · simp only [spec_Uniform.j1]
        rw [if_neg (by decide)]
/-- Where the program stands ahead of round i. -/
def StI (s : ByteArray) (i : Nat) (str : ByteArray) (at_ : Int) : Prop :=
  (i % 56 ≠ 0 ∧ str = blkS s (i / 56) ∧ at_ = ((3 * (i % 56) : Nat) : Int)) ∨ (i = 0 ∧ str = s ∧ at_ = 0) ∨ (i % 56 = 0 ∧ 0 < i ∧ str = blkS s (i / 56 - 1) ∧ at_ = 168)
theorem StI.next (s : ByteArray) (i : Nat) : StI s (i + 1) (blkS s (i / 56)) ((3 * (i % 56) + 3 : Nat) : Int) := by
  unfold StI
  by_cases h : (i + 1) % 56 = 0
  · exact Or.inr (Or.inr ⟨h, by omega, by rw [show (i + 1) / 56 - 1 = i / 56 by omega], by omega⟩)
  · exact Or.inl ⟨h, by rw [show (i + 1) / 56 = i / 56 by omega], by omega⟩
theorem fill_set (l : List Int) (v : Int) (h : l.length < 256) : (fill l).set l.length v = fill (l ++ [v]) := by
  unfold fill
  rw [List.set_append_right _ _ (Nat.le_refl _), Nat.sub_self, List.length_append, List.length_singleton, show 256 - l.length = 256 - (l.length + 1) + 1 by omega, List.replicate_succ, List.set_cons_zero, List.append_assoc]
  rfl
theorem impl_put (l y : List Int) (hl : l.length ≤ 256) (v : Int) (i : Int) (j : Nat) (hj : j < 2) (hy : y.length = 2) (hv : rd y (j : Int) = v) (str : ByteArray) (a : Int) (r : List Int)
    (h : Ev (fun k => impl_Uniform.l1 k (fill (put l v)) ((put l v).length : Int) i y 2 ((j + 1 : Nat) : Int) str a) r) : Ev (fun k => impl_Uniform.l1 k (fill l) (l.length : Int) i y 2 (j : Int) str a) r := by
  refine Ev.step (fun k => ?_) h
  have c1 : (j : Int) < 2 := by omega
  have c2 : (0 : Int) ≤ (j : Int) := by omega
  have c3 : (j : Int) < (y.length : Int) := by omega
  have w1 := w64s j (by omega)
  have w2 := w64s l.length (by omega)
  have hf := fill_len l hl
  simp only [impl_Uniform.l1, hv, w1, w2]
  rw [if_pos c1, if_pos c2, if_pos c3]
  by_cases h1 : v < 3329
  · rw [if_pos h1]
    by_cases h2 : l.length < 256
    · rw [if_pos (by omega), if_pos (by omega), if_pos (by omega), Int.toNat_natCast, put_in l v h1 h2, fill_set l v h2, List.length_append, List.length_singleton]
    · rw [if_neg (by omega), put_out l v (by omega)]
  · rw [if_neg h1, put_out l v (by omega)]
theorem impl_round (s : ByteArray) (hs : s.size = 200) (l : List Int) (hl : l.length < 256) (i : Nat) (hi : i < 4000) (str : ByteArray) (a : Int) (h : StI s i str a) (r : List Int)
    (hr : Ev (fun k => impl_Uniform.l0 k (fill (roundU s l i)) ((roundU s l i).length : Int) ((i + 1 : Nat) : Int) (blkS s (i / 56)) ((3 * (i % 56) + 3 : Nat) : Int)) r) : Ev (fun k => impl_Uniform.j1 k (fill l) (l.length : Int) (i : Int) true str a) r := by
  have hB := blkS_size s hs (i / 56)
  have ht : Ev (fun k => impl_StreamTake.f k str a 3) (blkS s (i / 56), ((3 * (i % 56) + 3 : Nat) : Int), (blkS s (i / 56)).extract (3 * (i % 56)) (3 * (i % 56) + 3)) := by
    rcases h with ⟨h1, rfl, rfl⟩ | ⟨rfl, rfl, rfl⟩ | ⟨hz, hp, rfl, rfl⟩
    · exact impl_take_in _ (3 * (i % 56)) 3 hB (by decide) (by omega)
    · exact impl_take_in str 0 3 hs (by decide) (by decide)
    · have := impl_take_new (blkS s (i / 56 - 1)) 3 (blkS_size s hs _) (by decide) (by decide)
      have e : permB (blkS s (i / 56 - 1)) = blkS s (i / 56) := by
        obtain ⟨m, hm⟩ : ∃ m, i / 56 = m + 1 := ⟨i / 56 - 1, by omega⟩
        rw [hm]; rfl
      rw [e] at this
      rw [hz]
      exact this
  have hz := ext_size (blkS s (i / 56)) (3 * (i % 56)) 3 (by omega)
  have hb : ∀ q : Nat, q < 3 → bt ((blkS s (i / 56)).extract (3 * (i % 56)) (3 * (i % 56) + 3)) (q : Int) = rb s i q := fun q hq => bt_ext (blkS s (i / 56)) (3 * (i % 56)) 3 q (by omega) hq
  have z0 : (0 : Int) < (((blkS s (i / 56)).extract (3 * (i % 56)) (3 * (i % 56) + 3)).size : Int) := by rw [hz]; decide
  have z1 : (1 : Int) < (((blkS s (i / 56)).extract (3 * (i % 56)) (3 * (i % 56) + 3)).size : Int) := by rw [hz]; decide
  have z2 : (2 : Int) < (((blkS s (i / 56)).extract (3 * (i % 56)) (3 * (i % 56) + 3)).size : Int) := by rw [hz]; decide
  have w3 := w64s i (by omega)
  have r0 : 0 ≤ rb s i 0 ∧ rb s i 0 ≤ 255 := bt_in _ _
  have r1 : 0 ≤ rb s i 1 ∧ rb s i 1 ≤ 255 := bt_in _ _
  have r2 : 0 ≤ rb s i 2 ∧ rb s i 2 ≤ 255 := bt_in _ _
  have e0 : bt ((blkS s (i / 56)).extract (3 * (i % 56)) (3 * (i % 56) + 3)) 0 = rb s i 0 := hb 0 (by decide)
  have e1 : bt ((blkS s (i / 56)).extract (3 * (i % 56)) (3 * (i % 56) + 3)) 1 = rb s i 1 := hb 1 (by decide)
  have e2 : bt ((blkS s (i / 56)).extract (3 * (i % 56)) (3 * (i % 56) + 3)) 2 = rb s i 2 := hb 2 (by decide)
  generalize hE : (blkS s (i / 56)).extract (3 * (i % 56)) (3 * (i % 56) + 3) = E at ht hz e0 e1 e2 z0 z1 z2
  refine Ev.step (f := fun k => (impl_StreamTake.f k str a 3).bind fun bt273 => (if 0 < (bt273.2.2.size : Int) then (if 1 < (bt273.2.2.size : Int) then (if 2 < (bt273.2.2.size : Int) then ((some (([wrap64 ((wrap64 (bt bt273.2.2 0)) + (wrap64 ((Int.tmod (wrap64 (bt bt273.2.2 1)) 16) * 256))), wrap64 ((wrap64 (Int.tdiv (wrap64 (bt bt273.2.2 1)) 16)) + (wrap64 (16 * (wrap64 (bt bt273.2.2 2)))))] : List Int) : List Int)).bind fun y277 => (impl_Uniform.l1 k (fill l) (l.length : Int) (i : Int) y277 (y277.length : Int) 0 bt273.1 bt273.2.1)) else (none)) else (none)) else (none))) (fun k => ?_) (Ev.bind ht ?_)
  · simp only [impl_Uniform.j1]
    rw [if_pos trivial]
  · refine Ev.pos z0 (Ev.pos z1 (Ev.pos z2 ?_))
    simp only [Option.bind_some, e0, e1, e2, low_impl _ _ r0 r1, high_spec _ _ r1 r2]
    clear e0 e1 e2 r0 r1 r2 hb hz z0 z1 z2 ht
    unfold roundU take3 at hr
    generalize lowV (rb s i 0) (rb s i 1) = v at hr ⊢
    generalize highV (rb s i 1) (rb s i 2) = u at hr ⊢
    refine impl_put l [v, u] (by omega) v (i : Int) 0 (by decide) rfl rfl _ _ r ?_
    refine impl_put (put l v) [v, u] (put_len _ _ (by omega)) u (i : Int) 1 (by decide) rfl rfl _ _ r ?_
    refine Ev.step (fun k => ?_) hr
    simp only [impl_Uniform.l1]
    rw [if_neg (by decide), w3]
theorem impl_rounds (s : ByteArray) (hs : s.size = 200) : ∀ n l i str a, n + i = 4000 → l.length ≤ 256 → StI s i str a → Ev (fun k => impl_Uniform.l0 k (fill l) (l.length : Int) (i : Int) str a) (fill (goU s n l i))
  | 0, l, i, str, a, hn, hl, h => by
    refine Ev.step (f := fun k => impl_Uniform.j1 k (fill l) (l.length : Int) (i : Int) false str a) (fun k => ?_) (Ev.step (f := fun _ => some (fill l)) (fun k => ?_) (Ev.now _))
    · simp only [impl_Uniform.l0]
      rw [if_neg (by omega)]
    · simp only [impl_Uniform.j1]
      rw [if_neg (by decide)]
  | n + 1, l, i, str, a, hn, hl, h => by
    simp only [goU]
    by_cases hq : l.length < 256
    · rw [if_pos hq]
      have ih := impl_rounds s hs n (roundU s l i) (i + 1) _ _ (by omega) (roundU_len s l i hl) (StI.next s i)
      refine Ev.step (fun k => ?_) (impl_round s hs l hq i (by omega) str a h _ ih)
      simp only [impl_Uniform.l0]
      rw [if_pos (by omega), decide_eq_true (by omega)]
    · rw [if_neg hq]
      refine Ev.step (f := fun k => impl_Uniform.j1 k (fill l) (l.length : Int) (i : Int) false str a) (fun k => ?_) (Ev.step (f := fun _ => some (fill l)) (fun k => ?_) (Ev.now _))
      · simp only [impl_Uniform.l0]
        rw [if_pos (by omega), decide_eq_false (by omega)]
      · simp only [impl_Uniform.j1]
        rw [if_neg (by decide)]
def uniV (s : ByteArray) (x y : Int) : List Int := fill (uniL (absV ((s ++ oneB x) ++ oneB y)))
theorem uniL_len (s : ByteArray) : (uniL s).length ≤ 256 := goU_len s 4000 [] 0 (by decide)
theorem uniV_len (s : ByteArray) (x y : Int) : (uniV s x y).length = 256 := fill_len _ (uniL_len _)
theorem spec_Uniform_ev (s : ByteArray) (x y : Int) (hs : s.size ≤ 1048576) : Ev (fun k => spec_Uniform.f k s x y) (uniV s x y) := by
  unfold spec_Uniform.f
  have h1 := oneB_size x
  have h2 := oneB_size y
  have h3 : (s ++ oneB x).size = s.size + 1 := by rw [ByteArray.size_append, h1]
  have h4 : ((s ++ oneB x) ++ oneB y).size = s.size + 2 := by rw [ByteArray.size_append, h2, h3]
  refine Ev.then (oneB_spec x) (Ev.pos (by omega) (Ev.then (oneB_spec y) (Ev.pos (by omega) (Ev.bind (spec_new_ev _ (by omega)) ?_))))
  exact spec_rounds _ (absV_size _) 4000 [] 0 _ _ 0 rfl (by decide) (Or.inr (Or.inl ⟨rfl, rfl, rfl⟩))
theorem impl_Uniform_ev (s : ByteArray) (x y : Int) (hs : s.size ≤ 1048576) : Ev (fun k => impl_Uniform.f k s x y) (uniV s x y) := by
  unfold impl_Uniform.f
  have h1 := oneB_size x
  have h2 := oneB_size y
  have h3 : (s ++ oneB x).size = s.size + 1 := by rw [ByteArray.size_append, h1]
  have h4 : ((s ++ oneB x) ++ oneB y).size = s.size + 2 := by rw [ByteArray.size_append, h2, h3]
  refine Ev.then (oneB_impl x) (Ev.pos (by omega) (Ev.then (oneB_impl y) (Ev.pos (by omega) (Ev.bind (impl_new_ev _ (by omega)) (Ev.pos (by decide) ?_)))))
  exact impl_rounds _ (absV_size _) 4000 [] 0 _ 0 rfl (by decide) (Or.inr (Or.inl ⟨rfl, rfl, rfl⟩))
end Go.Proofs.Ytnckhligcdieaaa.Pure
namespace Go.Proofs.Ytnckhligcdieaaa.Pure
open Go.RowKit Go.Proofs.YtnckhligcdieaaaW.PrintWords Go.Proofs.YtnckhligcdieaaaW.PrintLast Go.Proofs.YtnckhligcdieaaaW.PrintMore Go.Proofs.Ytnckhligcdieaaa.P

theorem in_eq (a b c : Int) : impl_in.f a b c = some (decide (b ≤ a ∧ a ≤ c)) := some_in a b c

end Go.Proofs.Ytnckhligcdieaaa.Pure
namespace Go.Proofs.Ytnckhligcdieaaa.Pure
open Go.RowKit Go.Proofs.YtnckhligcdieaaaW.PrintWords Go.Proofs.YtnckhligcdieaaaW.PrintLast Go.Proofs.YtnckhligcdieaaaW.PrintMore Go.Proofs.Ytnckhligcdieaaa.P

def inQ (x : Int) : Bool := decide (0 ≤ x ∧ x ≤ 3328)
def polyOk (l : List Int) : Bool := decide (l.length = 256) && l.all inQ
def small1 (x : Int) : Bool := decide (¬ (x > 2 ∧ x < 3327))
def smallOk (l : List Int) : Bool := polyOk l && l.all small1

theorem polyOk_mem {l : List Int} (h : polyOk l = true) {x : Int} (hx : x ∈ l) : 0 ≤ x ∧ x ≤ 3328 := by
  unfold polyOk at h; rw [Bool.and_eq_true] at h
  exact of_decide_eq_true (List.all_eq_true.mp h.2 x hx)
theorem polyOk_mk {l : List Int} (h : l.length = 256) (hx : ∀ x ∈ l, 0 ≤ x ∧ x ≤ 3328) : polyOk l = true := by
  unfold polyOk; rw [Bool.and_eq_true]
  exact ⟨decide_eq_true h, List.all_eq_true.mpr fun x hm => decide_eq_true (hx x hm)⟩

theorem impl_PolyOk_ev (l : List Int) (hl : l.length ≤ 35184372088832) : Ev (fun k => impl_PolyOk.f k l) (polyOk l) := by
  unfold impl_PolyOk.f polyOk
  have h := Ev.upTo (g := fun i k => impl_PolyOk.l0 k l l (l.length : Int) (i : Int)) (r := fun i => decide (l.length = 256) && (l.drop i).all inQ) l.length ?_ ?_ 0 (by omega)
  · simpa using h
  · intro i hi h
    simp only [drop_all inQ l i hi]
    cases hb : inQ l[i] with
    | true =>
      rw [Bool.true_and]
      refine Ev.step (fun k => ?_) h
      simp only [impl_PolyOk.l0, in_eq, Option.bind_some]
      rw [if_pos (by omega), if_pos (by omega), if_pos (by omega), rd_get l i hi, if_pos (show decide (0 ≤ l[i] ∧ l[i] ≤ 3328) = true from hb), w64s i (by omega)]
    | false =>
      rw [Bool.false_and, Bool.and_false]
      refine Ev.step (f := fun _ => some false) (fun k => ?_) (Ev.now _)
      simp only [impl_PolyOk.l0, in_eq, Option.bind_some]
      rw [if_pos (by omega), if_pos (by omega), if_pos (by omega), rd_get l i hi, if_neg (by unfold inQ at hb; rw [hb]; decide)]
  · refine Ev.step (f := fun _ => some (decide (l.length = 256) && (l.drop l.length).all inQ)) (fun k => ?_) (Ev.now _)
    simp only [impl_PolyOk.l0]
    rw [if_neg (by omega)]
    simp
    by_cases h : l.length = 256
    · rw [decide_eq_true h, h]; rfl
    · rw [decide_eq_false h]; rw [beq_eq_false_iff_ne]; omega

def small2 (x : Int) : Bool := decide (¬ mn x (wrap64 (3329 - x)) > 2)
theorem small2_eq {x : Int} (h : inQ x = true) : small2 x = small1 x := by
  have h' : 0 ≤ x ∧ x ≤ 3328 := of_decide_eq_true h
  unfold small2 small1 mn
  rw [w64 (by omega) (by omega), decide_eq_decide]
  split <;> omega
theorem smallOk_eq (l : List Int) : smallOk l = (l.all small2 && polyOk l) := by
  unfold smallOk
  cases hp : polyOk l with
  | false => simp
  | true =>
    rw [Bool.true_and, Bool.and_true]
    have : ∀ l : List Int, (∀ x ∈ l, 0 ≤ x ∧ x ≤ 3328) → l.all small1 = l.all small2 := by
      intro l
      induction l with
      | nil => intro _; rfl
      | cons a l ih =>
        intro hx
        rw [List.all_cons, List.all_cons, ih (fun x hm => hx x (List.mem_cons_of_mem _ hm)), small2_eq (decide_eq_true (hx a (List.mem_cons_self ..)))]
    exact this l fun x hx => polyOk_mem hp hx

theorem impl_SmallOk_ev (l : List Int) (hl : l.length ≤ 35184372088832) : Ev (fun k => impl_SmallOk.f k l) (smallOk l) := by
  unfold impl_SmallOk.f
  rw [smallOk_eq]
  refine Ev.upTo (g := fun i k => impl_SmallOk.l0 k l l (l.length : Int) (i : Int)) (r := fun i => (l.drop i).all small2 && polyOk l) l.length ?_ ?_ 0 (by omega)
  · intro i hi h
    simp only [drop_all small2 l i hi]
    by_cases hb : mn l[i] (wrap64 (3329 - l[i])) > 2
    · rw [show small2 l[i] = false from decide_eq_false (fun h => h hb), Bool.false_and, Bool.false_and]
      refine Ev.step (f := fun _ => some false) (fun k => ?_) (Ev.now _)
      simp only [impl_SmallOk.l0]
      rw [if_pos (by omega), if_pos (by omega), if_pos (by omega), rd_get l i hi, if_pos hb]
    · rw [show small2 l[i] = true from decide_eq_true hb, Bool.true_and]
      refine Ev.step (fun k => ?_) h
      simp only [impl_SmallOk.l0]
      rw [if_pos (by omega), if_pos (by omega), if_pos (by omega), rd_get l i hi, if_neg hb, w64s i (by omega)]
  · refine Ev.step (f := fun k => (impl_PolyOk.f k l).bind fun t => some t) (fun k => ?_) ?_
    · simp only [impl_SmallOk.l0]
      rw [if_neg (by omega)]
    · refine Ev.bind (impl_PolyOk_ev l hl) ?_
      simpa using Ev.now _
end Go.Proofs.Ytnckhligcdieaaa.Pure
namespace Go.Proofs.Ytnckhligcdieaaa.Pure
open Go.RowKit Go.Proofs.YtnckhligcdieaaaW.PrintWords Go.Proofs.YtnckhligcdieaaaW.PrintLast Go.Proofs.YtnckhligcdieaaaW.PrintMore Go.Proofs.Ytnckhligcdieaaa.P Go.Proofs.Ytnckhligcdieaaa.Kit
set_option linter.unusedVariables false
set_option linter.unusedSimpArgs false

theorem sameInts_self (l : List Int) (hl : l.length ≤ 35184372088832) : Ev (fun k => laws_sameInts.f k l l) true := by
  unfold laws_sameInts.f
  refine Ev.pos rfl ?_
  refine Ev.up (g := fun i k => laws_sameInts.l0 k l l (i : Int)) (r := true) l.length ?_ ?_ 0 (by omega)
  · intro i hi h
    refine Ev.step (fun k => ?_) h
    simp only [laws_sameInts.l0]
    rw [if_pos (by omega), if_pos (by omega), if_pos (by omega), if_pos trivial, w64s i (by omega)]
  · refine Ev.step (f := fun _ => some true) (fun k => ?_) (Ev.now _)
    simp only [laws_sameInts.l0]
    rw [if_neg (by omega)]
def AllQ (l : List Int) : Prop := ∀ x ∈ l, 0 ≤ x ∧ x ≤ 3328
theorem put_q (l : List Int) (v : Int) (hv : 0 ≤ v) (h : AllQ l) : AllQ (put l v) := by
  unfold put
  split
  · rename_i hc
    intro x hx
    rw [List.mem_append, List.mem_singleton] at hx
    rcases hx with hx | hx
    · exact h x hx
    · rw [hx]; omega
  · exact h
theorem roundU_q (s : ByteArray) (l : List Int) (i : Nat) (h : AllQ l) : AllQ (roundU s l i) := by
  have r0 : 0 ≤ rb s i 0 ∧ rb s i 0 ≤ 255 := bt_in _ _
  have r1 : 0 ≤ rb s i 1 ∧ rb s i 1 ≤ 255 := bt_in _ _
  have r2 : 0 ≤ rb s i 2 ∧ rb s i 2 ≤ 255 := bt_in _ _
  unfold roundU take3
  generalize rb s i 0 = a at r0 ⊢
  generalize rb s i 1 = b at r1 ⊢
  generalize rb s i 2 = c at r2 ⊢
  exact put_q _ _ (by unfold highV; omega) (put_q _ _ (by unfold lowV; omega) h)
theorem goU_q (s : ByteArray) : ∀ n l i, AllQ l → AllQ (goU s n l i)
  | 0, l, i, h => h
  | n + 1, l, i, h => by
    simp only [goU]
    split
    · exact goU_q s n _ _ (roundU_q s l i h)
    · exact h
theorem uniV_ok (s : ByteArray) (x y : Int) : polyOk (uniV s x y) = true := by
  refine polyOk_mk (uniV_len s x y) ?_
  unfold uniV fill
  intro z hz
  rw [List.mem_append] at hz
  rcases hz with hz | hz
  · exact goU_q _ 4000 [] 0 (fun x hx => absurd hx (by simp)) z hz
  · rw [List.eq_of_mem_replicate hz]; decide
theorem cb_in (v : Int) : (0 ≤ cb v ∧ cb v ≤ 2) ∨ (3327 ≤ cb v ∧ cb v ≤ 3328) := by
  unfold cb
  rcases Int.emod_two_eq v with h1 | h1 <;> rcases Int.emod_two_eq (v / 2) with h2 | h2 <;> rcases Int.emod_two_eq (v / 4) with h3 | h3 <;> rcases Int.emod_two_eq (v / 8) with h4 | h4 <;> rw [h1, h2, h3, h4] <;> decide
theorem smallL_mem (t : ByteArray) {x : Int} (h : x ∈ smallL t) : (0 ≤ x ∧ x ≤ 2) ∨ (3327 ≤ x ∧ x ≤ 3328) := by
  unfold smallL at h
  obtain ⟨i, _, rfl⟩ := List.mem_map.mp h
  exact cb_in _
theorem smallV_poly (s : ByteArray) (n : Int) : polyOk (smallV s n) = true :=
  polyOk_mk (smallV_len s n) fun x hx => by have := smallL_mem _ hx; omega
theorem smallV_ok (s : ByteArray) (n : Int) : smallOk (smallV s n) = true := by
  unfold smallOk
  rw [smallV_poly, Bool.true_and, List.all_eq_true]
  intro x hx
  have := smallL_mem _ hx
  unfold small1
  exact decide_eq_true (by omega)
end Go.Proofs.Ytnckhligcdieaaa.Pure
namespace Go.Proofs.Ytnckhligcdieaaa.Pure
open Go.RowKit Go.Proofs.YtnckhligcdieaaaW.PrintWords Go.Proofs.YtnckhligcdieaaaW.PrintLast Go.Proofs.YtnckhligcdieaaaW.PrintMore Go.Proofs.Ytnckhligcdieaaa.P

theorem and255 (x : Int) : 0 ≤ Go.bits .and .i64 x 255 ∧ Go.bits .and .i64 x 255 ≤ 255 := by
  have h : ((BitVec.ofInt 64 x &&& BitVec.ofInt 64 255).toNat) ≤ 255 := by
    rw [BitVec.toNat_and]
    exact Nat.and_le_right
  show 0 ≤ IntKind.i64.wrap (((BitVec.ofInt 64 x &&& BitVec.ofInt 64 255).toNat : Nat) : Int) ∧ IntKind.i64.wrap (((BitVec.ofInt 64 x &&& BitVec.ofInt 64 255).toNat : Nat) : Int) ≤ 255
  rw [IntKind.wrap_i64]
  omega
/-- The place of a cursor. -/
def Cur (l : List Int) (i : Int) : Prop := 0 ≤ i ∧ i ≤ l.length ∧ l.length ≤ 1048576
theorem new_some (l : List Int) (hl : l.length ≤ 1048576) : ∃ h, Ev (fun k => spec_l01New.f k l) (l, 0, h) ∧ Cur l 0 := by
  have key : ∀ d i : Nat, ∀ h : Int, l.length - i = d → i ≤ l.length → ∃ h', Ev (fun k => spec_l01New.l0 k l h (i : Int)) (l, (0 : Int), h') := by
    intro d
    induction d with
    | zero =>
      intro i h hd hi
      refine ⟨h, Ev.step (f := fun _ => some (l, 0, h)) (fun k => ?_) (Ev.now _)⟩
      simp only [spec_l01New.l0]
      rw [if_neg (by omega)]
    | succ d ih =>
      intro i h hd hi
      by_cases h4 : i < 4000
      · obtain ⟨h', e⟩ := ih (i + 1) (Go.bits .and .i64 (wrap64 ((wrap64 ((wrap64 (h * 131)) + (wrap64 (rd l i)))) + 7)) 1073741823) (by omega) (by omega)
        refine ⟨h', Ev.step (fun k => ?_) e⟩
        simp only [spec_l01New.l0]
        rw [if_pos (by omega), if_pos (by omega), if_pos (by omega), w64s i (by omega)]
      · refine ⟨h, Ev.step (f := fun _ => some (l, 0, h)) (fun k => ?_) (Ev.now _)⟩
        simp only [spec_l01New.l0]
        rw [if_pos (by omega), if_neg (by omega)]
  obtain ⟨h', e⟩ := key l.length 0 (wrap64 (27401 + (l.length : Int))) (by omega) (by omega)
  exact ⟨h', e, by unfold Cur; omega⟩
theorem byte_some (l : List Int) (i h : Int) (hc : Cur l i) : ∃ x i' h', spec_l01Byte.f l i h = some (x, i', h') ∧ 0 ≤ x ∧ x ≤ 255 ∧ Cur l i' := by
  obtain ⟨h0, h1, h2⟩ := hc
  unfold spec_l01Byte.f
  by_cases hi : i < l.length
  · rw [if_pos hi, if_pos h0, w64 (x := i + 1) (by omega) (by omega)]
    exact ⟨_, _, _, rfl, (and255 _).1, (and255 _).2, by unfold Cur; omega⟩
  · rw [if_neg hi]
    exact ⟨_, _, _, rfl, (and255 _).1, (and255 _).2, by unfold Cur; omega⟩
theorem tmod_range {x n : Int} (h0 : 0 ≤ x) (hn : 0 < n) : 0 ≤ Int.tmod x n ∧ Int.tmod x n < n := by
  rw [Int.tmod_eq_emod_of_nonneg h0]
  exact ⟨Int.emod_nonneg _ (by omega), Int.emod_lt_of_pos _ hn⟩
theorem below_some (l : List Int) (i h n : Int) (hc : Cur l i) (hn : 0 < n) : ∃ x i' h', spec_l01Below.f l i h n = some (x, i', h') ∧ 0 ≤ x ∧ x < n ∧ Cur l i' := by
  unfold spec_l01Below.f
  rw [if_neg (by omega)]
  by_cases h256 : n ≤ 256
  · obtain ⟨x, i', h', e, hx0, hx1, hc'⟩ := byte_some l i h hc
    rw [if_pos h256, e]
    simp only [Option.bind_some]
    rw [if_neg (by omega)]
    exact ⟨_, _, _, rfl, (tmod_range hx0 hn).1, (tmod_range hx0 hn).2, hc'⟩
  · obtain ⟨a, i1, h1, e1, ha0, ha1, hc1⟩ := byte_some l i h hc
    obtain ⟨b, i2, h2, e2, hb0, hb1, hc2⟩ := byte_some l i1 h1 hc1
    obtain ⟨c, i3, h3, e3, hc0, hc1', hc3⟩ := byte_some l i2 h2 hc2
    obtain ⟨d, i4, h4, e4, hd0, hd1, hc4⟩ := byte_some l i3 h3 hc3
    rw [if_neg h256, e1]
    simp only [Option.bind_some]
    rw [e2]
    simp only [Option.bind_some]
    rw [e3]
    simp only [Option.bind_some]
    rw [e4]
    simp only [Option.bind_some]
    rw [if_neg (by omega)]
    have e : wrap64 ((wrap64 ((wrap64 ((wrap64 (a * 16777216)) + (wrap64 (b * 65536)))) + (wrap64 (c * 256)))) + d) = a * 16777216 + b * 65536 + c * 256 + d := by
      rw [w64 (x := a * 16777216) (by omega) (by omega), w64 (x := b * 65536) (by omega) (by omega), w64 (x := c * 256) (by omega) (by omega), w64 (x := a * 16777216 + b * 65536) (by omega) (by omega), w64 (x := a * 16777216 + b * 65536 + c * 256) (by omega) (by omega), w64 (by omega) (by omega)]
    rw [e]
    have hx0 : 0 ≤ a * 16777216 + b * 65536 + c * 256 + d := by omega
    exact ⟨_, _, _, rfl, (tmod_range hx0 hn).1, (tmod_range hx0 hn).2, hc4⟩

end Go.Proofs.Ytnckhligcdieaaa.Pure
namespace Go.Proofs.Ytnckhligcdieaaa.Pure
open Go.RowKit Go.Proofs.YtnckhligcdieaaaW.PrintWords Go.Proofs.YtnckhligcdieaaaW.PrintLast Go.Proofs.YtnckhligcdieaaaW.PrintMore Go.Proofs.Ytnckhligcdieaaa.P

theorem pickInt_some (l : List Int) (i h : Int) (xs : List Int) (hc : Cur l i) (hx : 0 < xs.length) : ∃ x i' h', spec_l01PickInt.f l i h xs = some (x, i', h') ∧ x ∈ xs ∧ Cur l i' := by
  obtain ⟨x, i', h', e, h0, h1, hc'⟩ := below_some l i h xs.length hc (by omega)
  refine ⟨rd xs x, i', h', ?_, rd_mem xs x h0 h1, hc'⟩
  unfold spec_l01PickInt.f
  rw [e, Option.bind_some, if_pos h0, if_pos h1]
theorem once_some (l : List Int) (i h n : Int) (hc : Cur l i) (hn : 0 < n) : ∃ b i' h', spec_l01Once.f l i h n = some (b, i', h') ∧ Cur l i' := by
  obtain ⟨x, i', h', e, _, _, hc'⟩ := below_some l i h n hc hn
  refine ⟨x == 0, i', h', ?_, hc'⟩
  unfold spec_l01Once.f
  rw [e, Option.bind_some]
theorem text_some (l : List Int) (i h : Int) (n : Int) (hc : Cur l i) (hn : n ≤ 5000) : ∃ (t : ByteArray) (i' h' : Int), Ev (fun k => spec_l01Text.f k l i h n) (t, i', h') ∧ t.size = n.toNat ∧ Cur l i' := by
  have key : ∀ d m : Nat, ∀ (ps : List Int) (i h : Int), n.toNat - m = d → m ≤ n.toNat → Cur l i → ps.length = m →
      ∃ (t : ByteArray) (i' h' : Int), Ev (fun k => spec_l01Text.l0 k n ps (m : Int) l i h) (t, i', h') ∧ t.size = n.toNat ∧ Cur l i' := by
    intro d
    induction d with
    | zero =>
      intro m ps i h hd hm hc hp
      refine ⟨strOfNums ps, i, h, Ev.step (f := fun _ => some (strOfNums ps, i, h)) (fun k => ?_) (Ev.now _), by rw [strOfNums_size]; omega, hc⟩
      simp only [spec_l01Text.l0]
      rw [if_neg (by omega)]
    | succ d ih =>
      intro m ps i h hd hm hc hp
      obtain ⟨x, i1, h1, e1, _, _, hc1⟩ := byte_some l i h hc
      obtain ⟨t, i', h', e, ht, hc'⟩ := ih (m + 1) (ps ++ [x % 256]) i1 h1 (by omega) (by omega) hc1 (by simp [hp])
      have c1 : (m : Int) < n := by omega
      have c2 : ps.length < 140737488355328 := by omega
      refine ⟨t, i', h', Ev.step (fun k => ?_) e, ht, hc'⟩
      simp only [spec_l01Text.l0]
      rw [if_pos c1, e1, Option.bind_some, if_pos c2, w64s m (by omega)]
  obtain ⟨t, i', h', e, ht, hc'⟩ := key n.toNat 0 [] i h (by omega) (by omega) hc rfl
  refine ⟨t, i', h', ?_, ht, hc'⟩
  unfold spec_l01Text.f
  refine Ev.neg (by omega) ?_
  refine Ev.step (fun k => ?_) e
  simp only [spec_l01Text.j0]
  rfl
end Go.Proofs.Ytnckhligcdieaaa.Pure
namespace Go.Proofs.Ytnckhligcdieaaa.Pure
open Go.RowKit Go.Proofs.YtnckhligcdieaaaW.PrintWords Go.Proofs.YtnckhligcdieaaaW.PrintLast Go.Proofs.YtnckhligcdieaaaW.PrintMore Go.Proofs.Ytnckhligcdieaaa.P
theorem place_some (l : List Int) (i h n : Int) (hc : Cur l i) (hn : 0 < n) : ∃ x i' h', spec_l01Place.f l i h n = some (x, i', h') ∧ Cur l i' := by
  obtain ⟨b, i1, h1, e1, c1⟩ := once_some l i h 15 hc (by decide)
  unfold spec_l01Place.f
  rw [e1]
  simp only [Option.bind_some]
  cases b with
  | true =>
    obtain ⟨x, i2, h2, e2, _, c2⟩ := pickInt_some l i1 h1 [(-1), n, wrap64 (n + 1), 9223372036854775807, (-9223372036854775808)] c1 (by simp)
    rw [if_pos rfl, e2]
    exact ⟨x, i2, h2, rfl, c2⟩
  | false =>
    obtain ⟨x, i2, h2, e2, _, _, c2⟩ := below_some l i1 h1 n c1 hn
    rw [if_neg (by decide), e2]
    exact ⟨x, i2, h2, rfl, c2⟩
end Go.Proofs.Ytnckhligcdieaaa.Pure
namespace Go.Proofs.Ytnckhligcdieaaa.Pure
set_option linter.unusedVariables false
open Go.RowKit Go.Proofs.YtnckhligcdieaaaW.PrintWords Go.Proofs.YtnckhligcdieaaaW.PrintLast Go.Proofs.YtnckhligcdieaaaW.PrintMore Go.Proofs.Ytnckhligcdieaaa.P

theorem long_some (n x : Int) (hn : 0 ≤ n ∧ n ≤ 1000) : ∃ t : ByteArray, Ev (fun k => spec_l01Long.f k n x) t ∧ t.size = n.toNat := by
  have key : ∀ d m : Nat, ∀ (ps : List Int), n.toNat - m = d → m ≤ n.toNat → ps.length = n.toNat → ∃ t : ByteArray, Ev (fun k => spec_l01Long.l0 k n x ps (m : Int)) t ∧ t.size = n.toNat := by
    intro d
    induction d with
    | zero =>
      intro m ps hd hm hp
      refine ⟨strOfNums ps, Ev.step (f := fun _ => some (strOfNums ps)) (fun k => ?_) (Ev.now _), by rw [strOfNums_size]; exact hp⟩
      simp only [spec_l01Long.l0]
      rw [if_neg (by omega)]
    | succ d ih =>
      intro m ps hd hm hp
      obtain ⟨t, e, ht⟩ := ih (m + 1) (ps.set m x) (by omega) (by omega) (by simp [hp])
      refine ⟨t, Ev.step (fun k => ?_) e, ht⟩
      simp only [spec_l01Long.l0]
      rw [if_pos (by omega), if_pos (by omega), if_pos (by omega), Int.toNat_natCast, w64s m (by omega)]
  unfold spec_l01Long.f
  obtain ⟨t, e, ht⟩ := key n.toNat 0 (List.replicate n.toNat 0) (by omega) (by omega) (by simp)
  exact ⟨t, Ev.pos hn.1 (Ev.pos (by omega) e), ht⟩
theorem text05_some (l : List Int) (i h : Int) (hc : Cur l i) : ∃ (t : ByteArray) (i' h' : Int), t.size ≤ 2000 ∧ Ev (fun k => spec_l05Text.f k l i h) (t, i', h') ∧ Cur l i' := by
  obtain ⟨n, i1, h1, e1, nm, c1⟩ := pickInt_some l i h [0, 3, 10, 54, 55, 56, 57, 63, 64, 65, 119, 120, 130] hc (by decide)
  have hn : 0 ≤ n ∧ n ≤ 1000 := by
    simp only [List.mem_cons, List.not_mem_nil, or_false] at nm
    omega
  obtain ⟨q, i2, h2, e2, q0, q1, c2⟩ := below_some l i1 h1 5 c1 (by decide)
  obtain ⟨t, i3, h3, e3, ts, c3⟩ := text_some l i2 h2 q c2 (by omega)
  obtain ⟨v, i4, h4, e4, _, _, c4⟩ := below_some l i3 h3 20 c3 (by decide)
  obtain ⟨u, e5, us⟩ := long_some n (wrap64 (65 + v) % 256) hn
  refine ⟨t ++ u, i4, h4, by rw [ByteArray.size_append]; omega, ?_, c4⟩
  unfold spec_l05Text.f
  exact Ev.then e1 (Ev.then e2 (Ev.bind e3 (Ev.then e4 (Ev.bind e5 (Ev.pos (by show t.size + u.size ≤ 9223372036854775807; omega) (Ev.now _))))))
end Go.Proofs.Ytnckhligcdieaaa.Pure
