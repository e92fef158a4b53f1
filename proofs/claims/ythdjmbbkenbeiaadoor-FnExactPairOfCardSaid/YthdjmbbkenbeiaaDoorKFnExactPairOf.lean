/- Plain laws that the law FnExactPairOf rests on. -/
import Derived.Test.YthdjmbbkenbeiaaDoorPx0
import Derived.Test.YthdjmbbkenbeiaaDoorV0
import Derived.Test.YthdjmbbkenbeiaaDoorHB2
import Derived.Test.YthdjmbbkenbeiaaDoorHB3
import Derived.Laws.BitsAllLaws
import Derived.Laws.BitsLemmas
import Derived.Test.YthdjmbbkenbeiaaDoorHB4
import Derived.Test.YthdjmbbkenbeiaaDoorHB5
import Derived.Test.YthdjmbbkenbeiaaDoorHB6
import Derived.Test.YthdjmbbkenbeiaaDoorHA2
import Derived.Test.YthdjmbbkenbeiaaDoorHA3
import Derived.Test.YthdjmbbkenbeiaaDoorHA4
import Derived.Test.YthdjmbbkenbeiaaDoorHA5
import Derived.Test.YthdjmbbkenbeiaaDoorMW3
import Derived.Test.YthdjmbbkenbeiaaDoorPx1
import Derived.Test.YthdjmbbkenbeiaaDoorPx2
import Derived.Test.YthdjmbbkenbeiaaDoorPx3
import Derived.Test.YthdjmbbkenbeiaaDoorPx4
import Derived.Test.YthdjmbbkenbeiaaDoorPx5
import Derived.Test.YthdjmbbkenbeiaaDoorPx6
import Derived.Test.YthdjmbbkenbeiaaDoorPx7
import Derived.Test.YthdjmbbkenbeiaaDoorPx8
import Derived.Test.YthdjmbbkenbeiaaDoorPx9
import Derived.Test.YthdjmbbkenbeiaaDoorPx10
import Derived.Test.YthdjmbbkenbeiaaDoorPx11
import Derived.Test.YthdjmbbkenbeiaaDoorPx12
import Derived.Test.YthdjmbbkenbeiaaDoorHB2
import Derived.Test.YthdjmbbkenbeiaaDoorHB3
import Derived.Test.YthdjmbbkenbeiaaDoorHB1
import Derived.Test.YthdjmbbkenbeiaaDoorHB5
import Derived.Test.YthdjmbbkenbeiaaDoorHB4
import Derived.Test.YthdjmbbkenbeiaaDoorHB6
import Derived.Test.YthdjmbbkenbeiaaDoorHA2
import Derived.Test.YthdjmbbkenbeiaaDoorHA3
import Derived.Test.YthdjmbbkenbeiaaDoorHA1
import Derived.Test.YthdjmbbkenbeiaaDoorHA4
import Derived.Test.YthdjmbbkenbeiaaDoorHA5
namespace Go.Proofs.YthdjmbbkenbeiaaDoor.Pure
open Go.RowKit Go.Proofs.YthdjmbbkenbeiaaDoorW.PrintWords Go.Proofs.YthdjmbbkenbeiaaDoorW.PrintLast Go.Proofs.YthdjmbbkenbeiaaDoorW.PrintMore

theorem w64 {x : Int} (h1 : -9223372036854775808 ≤ x) (h2 : x ≤ 9223372036854775807) : wrap64 x = x := by unfold wrap64; omega
theorem w64s (n : Nat) (h : n < 9223372036854775807) : wrap64 ((n : Int) + 1) = ((n + 1 : Nat) : Int) := by rw [w64 (by omega) (by omega)]; rfl
theorem Ev.pos {α : Type} {c : Prop} [Decidable c] {f g : Nat → Option α} {r : α} (hc : c) (h : Ev f r) : Ev (fun k => if c then f k else g k) r := by
  simpa only [if_pos hc] using h
theorem Ev.neg {α : Type} {c : Prop} [Decidable c] {f g : Nat → Option α} {r : α} (hc : ¬ c) (h : Ev g r) : Ev (fun k => if c then f k else g k) r := by
  simpa only [if_neg hc] using h
theorem Ev.then {α β : Type} {o : Option α} {f : Nat → α → Option β} {a : α} {r : β} (h : o = some a) (k : Ev (fun n => f n a) r) : Ev (fun n => o.bind (f n)) r := by
  subst h; exact k
/-- A loop that goes up: what it answers at the end, it answers from the start. -/
theorem Ev.up {α : Type} {g : Nat → Nat → Option α} {r : α} (n : Nat) (hs : ∀ i, i < n → Ev (g (i + 1)) r → Ev (g i) r) (he : Ev (g n) r) (i : Nat) (hi : i ≤ n) : Ev (g i) r := by
  obtain ⟨d, rfl⟩ : ∃ d, n = i + d := ⟨n - i, by omega⟩
  induction d generalizing i with
  | zero => exact he
  | succ d ih =>
    refine hs i (by omega) (ih (i + 1) ?_ ?_ (by omega))
    · intro j hj h
      exact hs j (by omega) h
    · rw [show i + 1 + d = i + (d + 1) by omega]; exact he
/-- A loop that may stop early. -/
theorem Ev.upTo {α : Type} {g : Nat → Nat → Option α} {r : Nat → α} (n : Nat) (hs : ∀ i, i < n → Ev (g (i + 1)) (r (i + 1)) → Ev (g i) (r i)) (he : Ev (g n) (r n)) (i : Nat) (hi : i ≤ n) : Ev (g i) (r i) := by
  obtain ⟨d, rfl⟩ : ∃ d, n = i + d := ⟨n - i, by omega⟩
  induction d generalizing i with
  | zero => exact he
  | succ d ih =>
    refine hs i (by omega) (ih (i + 1) ?_ ?_ (by omega))
    · intro j hj h
      exact hs j (by omega) h
    · rw [show i + 1 + d = i + (d + 1) by omega]; exact he

/-- A loop that goes up from a. -/
theorem Ev.upFrom {α : Type} {g : Nat → Nat → Option α} {r : α} (a n : Nat) (hs : ∀ i, a ≤ i → i < n → Ev (g (i + 1)) r → Ev (g i) r) (he : Ev (g n) r) (h : a ≤ n) : Ev (g a) r := by
  have := Ev.up (g := fun i => g (a + i)) (r := r) (n - a) (fun i hi h => hs (a + i) (by omega) (by omega) h) (by simpa only [show a + (n - a) = n by omega] using he) 0 (by omega)
  exact this

/-! lists -/
theorem rd_nat (l : List Int) (i : Nat) : rd l (i : Int) = l.getD i 0 := by simp [rd]
theorem rd_get (l : List Int) (i : Nat) (h : i < l.length) : rd l (i : Int) = l[i] := by simp [rd, List.getD_eq_getElem?_getD, List.getElem?_eq_getElem h]
theorem drop_all {α : Type} (p : α → Bool) (l : List α) (i : Nat) (h : i < l.length) : (l.drop i).all p = (p l[i] && (l.drop (i + 1)).all p) := by
  rw [List.drop_eq_getElem_cons h, List.all_cons]
theorem take_snoc {α : Type} (l : List α) (i : Nat) (h : i < l.length) : l.take i ++ [l[i]] = l.take (i + 1) := by simp
theorem some_in (a b c : Int) : (if a ≥ b then (some (decide (a ≤ c))) else (some false)) = some (decide (b ≤ a ∧ a ≤ c)) := by
  by_cases h : a ≥ b
  · rw [if_pos h]; congr 1; rw [decide_eq_decide]; constructor
    · intro h2; exact ⟨h, h2⟩
    · intro h2; exact h2.2
  · rw [if_neg h]; congr 1; symm; rw [decide_eq_false_iff_not]; intro h2; exact h h2.1
theorem set_fill {α : Type} (l : List α) (d : α) (i : Nat) (h : i < l.length) : (l.take i ++ List.replicate (l.length - i) d).set i l[i] = l.take (i + 1) ++ List.replicate (l.length - (i + 1)) d := by
  apply List.ext_getElem
  · simp; omega
  · intro j h1 h2
    simp only [List.getElem_set, List.getElem_append, List.length_take, List.getElem_take, List.getElem_replicate]
    split
    · subst_vars
      rw [dif_pos (by omega)]
    · by_cases hj : j < i
      · rw [dif_pos (by omega), dif_pos (by omega)]
      · rw [dif_neg (by omega), dif_neg (by omega)]


/-- The first L bytes of S, the least first. -/
def bytesL (L S : Nat) : List Int := (List.range L).map fun j => ((S / 256 ^ j % 256 : Nat) : Int)
theorem bytesL_length (L S : Nat) : (bytesL L S).length = L := by simp [bytesL]
theorem bytesL_get (L S j : Nat) (h : j < (bytesL L S).length) : (bytesL L S)[j] = ((S / 256 ^ j % 256 : Nat) : Int) := by simp [bytesL]
theorem bytesL_zero (L : Nat) : bytesL L 0 = List.replicate L 0 := by
  apply List.ext_getElem
  · simp [bytesL]
  · intro j h1 h2
    rw [bytesL_get]; simp
theorem bytesL_snoc (L S : Nat) : bytesL L S ++ [((S / 256 ^ L % 256 : Nat) : Int)] = bytesL (L + 1) S := by simp [bytesL, List.range_succ]

theorem pow256 (j : Nat) : 256 ^ j = 2 ^ (8 * j) := by rw [Nat.pow_mul]
theorem bit_add {S P T b : Nat} (hP : 0 < P) (hS : S < P * T) (hT : T ≤ 128) (hb : b ≤ 1) : S / P % 256 + b * T = (S + b * (P * T)) / P % 256 := by
  have hq : S / P < T := Nat.div_lt_of_lt_mul hS
  have hb2 : b * T ≤ T := by
    have := Nat.mul_le_mul_right T hb
    omega
  rw [show b * (P * T) = P * (b * T) from Nat.mul_left_comm .., Nat.add_mul_div_left _ _ hP]
  obtain ⟨q, hq'⟩ : ∃ q, S / P = q := ⟨_, rfl⟩
  obtain ⟨u, hu⟩ : ∃ u, b * T = u := ⟨_, rfl⟩
  rw [hq'] at hq ⊢
  rw [hu] at hb2 ⊢
  rw [Nat.mod_eq_of_lt (show q < 256 by omega), Nat.mod_eq_of_lt (show q + u < 256 by omega)]
/-- Setting a bit above all others. -/
theorem bytesL_bit (L S m b : Nat) (hS : S < 2 ^ m) (hb : b ≤ 1) :
    (bytesL L S).set (m / 8) ((((S / 256 ^ (m / 8)) % 256 + b * 2 ^ (m % 8) : Nat)) : Int) = bytesL L (S + b * 2 ^ m) := by
  have hmm : 2 ^ m = 256 ^ (m / 8) * 2 ^ (m % 8) := by rw [pow256, ← Nat.pow_add]; congr 1; omega
  have h7 : 2 ^ (m % 8) ≤ 128 := by
    have : m % 8 ≤ 7 := by omega
    exact Nat.pow_le_pow_right (n := 2) (by omega) this
  apply List.ext_getElem
  · simp [bytesL]
  · intro j h1 h2
    rw [List.getElem_set, bytesL_get, bytesL_get]
    by_cases hj : m / 8 = j
    · rw [if_pos hj]; subst hj
      congr 1
      rw [hmm]
      exact bit_add (Nat.pow_pos (by omega)) (by rw [← hmm]; exact hS) h7 hb
    · rw [if_neg hj]
      congr 1
      by_cases hlt : j < m / 8
      · obtain ⟨d, hd⟩ : ∃ d, m / 8 = j + 1 + d := ⟨m / 8 - (j + 1), by omega⟩
        have e : b * 2 ^ m = 256 ^ j * (256 * (256 ^ d * (b * 2 ^ (m % 8)))) := by
          rw [hmm, hd, Nat.pow_add, Nat.pow_add]; simp only [Nat.pow_one, Nat.mul_assoc, Nat.mul_comm, Nat.mul_left_comm]
        rw [e, Nat.add_mul_div_left _ _ (Nat.pow_pos (by omega)), Nat.add_mul_mod_self_left]
      · have hle : 2 ^ (m + 1) ≤ 256 ^ j := by rw [pow256]; exact Nat.pow_le_pow_right (by omega) (by omega)
        rw [Nat.pow_succ] at hle
        have hb2 : b * 2 ^ m ≤ 2 ^ m := by
          have := Nat.mul_le_mul_right (2 ^ m) hb
          omega
        rw [Nat.div_eq_of_lt (by omega), Nat.div_eq_of_lt (by omega)]

/-- Numbers of b bits, side by side, the first lowest. -/
def valB (b : Nat) : List Nat → Nat
  | [] => 0
  | x :: l => x + 2 ^ b * valB b l
theorem valB_snoc (b : Nat) (l : List Nat) (x : Nat) : valB b (l ++ [x]) = valB b l + 2 ^ (b * l.length) * x := by
  induction l with
  | nil => simp [valB]
  | cons a l ih =>
    simp only [List.cons_append, valB, ih, List.length_cons, Nat.mul_add, Nat.mul_succ, Nat.pow_add]
    rw [Nat.add_assoc]; congr 2
    rw [← Nat.mul_assoc, Nat.mul_comm (2 ^ b)]
theorem valB_lt (b : Nat) (l : List Nat) (h : ∀ x ∈ l, x < 2 ^ b) : valB b l < 2 ^ (b * l.length) := by
  induction l with
  | nil => simp [valB]
  | cons a l ih =>
    have h1 := h a (List.mem_cons_self ..)
    have h2 := ih fun x hx => h x (List.mem_cons_of_mem _ hx)
    simp only [valB, List.length_cons, Nat.mul_succ, Nat.pow_add]
    have h3 : 2 ^ b * valB b l + 2 ^ b ≤ 2 ^ b * 2 ^ (b * l.length) := by
      rw [← Nat.mul_succ]; exact Nat.mul_le_mul_left _ h2
    rw [Nat.mul_comm (2 ^ (b * l.length))]
    omega
theorem valB_take_succ (b : Nat) (l : List Nat) (i : Nat) (h : i < l.length) : valB b (l.take (i + 1)) = valB b (l.take i) + 2 ^ (b * i) * l[i] := by
  rw [← List.take_append_getElem h, valB_snoc, List.length_take, Nat.min_eq_left (by omega)]
theorem strOfNums_get (xs : List Int) (i : Nat) (h : i < (strOfNums xs).size) : (strOfNums xs)[i] = UInt8.ofNat (xs[i]'(by simpa [strOfNums_size] using h)).toNat := by
  simp [strOfNums, ByteArray.getElem_eq_getElem_data]
theorem bytes_ext {s t : ByteArray} (h : s.data.toList = t.data.toList) : s = t := by
  cases s; cases t; congr 1; exact Array.toList_inj.mp h
def EqQ (x y : Int) : Prop := x % 3329 = y % 3329
theorem EqQ.refl (x : Int) : EqQ x x := rfl
theorem EqQ.of {x y : Int} (h : x = y) : EqQ x y := by rw [h]; exact EqQ.refl y
theorem EqQ.symm {x y : Int} (h : EqQ x y) : EqQ y x := Eq.symm h
theorem EqQ.trans {x y z : Int} (h : EqQ x y) (k : EqQ y z) : EqQ x z := Eq.trans h k
theorem EqQ.mod (x : Int) : EqQ (x % 3329) x := Int.emod_emod_of_dvd _ (Int.dvd_refl _)
theorem EqQ.neg {x y : Int} (h : EqQ x y) : EqQ (-x) (-y) := by unfold EqQ at *; omega
theorem EqQ.mul {x y z w : Int} (h : EqQ x y) (k : EqQ z w) : EqQ (x * z) (y * w) := by
  unfold EqQ at *
  rw [Int.mul_emod, h, k, ← Int.mul_emod]
theorem EqQ.eq {x y : Int} (h : EqQ x y) (h0 : 0 ≤ x) (h1 : x ≤ 3328) (h2 : 0 ≤ y) (h3 : y ≤ 3328) : x = y := by unfold EqQ at h; omega
theorem EqQ.eqm {x y : Int} (h : EqQ x y) : x % 3329 = y % 3329 := h
theorem mod_in (x : Int) : 0 ≤ x % 3329 ∧ x % 3329 ≤ 3328 := by omega

end Go.Proofs.YthdjmbbkenbeiaaDoor.Pure
namespace Go.Proofs.YthdjmbbkenbeiaaDoor.Pure
open Go.RowKit Go.Proofs.YthdjmbbkenbeiaaDoorW.PrintWords Go.Proofs.YthdjmbbkenbeiaaDoorW.PrintLast Go.Proofs.YthdjmbbkenbeiaaDoorW.PrintMore Go.Proofs.YthdjmbbkenbeiaaDoor.P

theorem l01In_eq (a b c : Int) : spec_l01In.f a b c = some (decide (b ≤ a ∧ a ≤ c)) := some_in a b c
theorem in_eq (a b c : Int) : impl_in.f a b c = some (decide (b ≤ a ∧ a ≤ c)) := some_in a b c

theorem two_le {i : Nat} (h : i ≤ 62) : (2 : Int) ^ i ≤ 4611686018427387904 := by
  have := Nat.pow_le_pow_right (n := 2) (by omega) h
  have h2 : ((2 ^ i : Nat) : Int) ≤ ((2 ^ 62 : Nat) : Int) := Int.ofNat_le.mpr this
  simpa using h2
theorem two_pos (i : Nat) : (0 : Int) < 2 ^ i := Int.pow_pos (by omega)
theorem l11Two_ev (n : Int) (h : n ≤ 62) : Ev (fun k => spec_l11Two.f k n) (2 ^ n.toNat) := by
  unfold spec_l11Two.f
  refine Ev.up (g := fun i k => spec_l11Two.l0 k n (2 ^ i) (i : Int)) (r := (2 : Int) ^ n.toNat) n.toNat ?_ ?_ 0 (by omega)
  · intro i hi h'
    refine Ev.step (fun k => ?_) h'
    simp only [spec_l11Two.l0]
    have h1 := two_le (i := i + 1) (by omega)
    have h2 := two_pos i
    rw [Int.pow_succ] at h1
    rw [if_pos (by omega), w64s i (by omega), w64 (by omega) (by omega), Int.pow_succ, Int.mul_comm]
  · refine Ev.step (f := fun _ => some ((2 : Int) ^ n.toNat)) (fun k => ?_) (Ev.now _)
    simp only [spec_l11Two.l0]
    rw [if_neg (by omega)]

end Go.Proofs.YthdjmbbkenbeiaaDoor.Pure
namespace Go.Proofs.YthdjmbbkenbeiaaDoor.Pure
open Go.RowKit Go.Proofs.YthdjmbbkenbeiaaDoorW.PrintWords Go.Proofs.YthdjmbbkenbeiaaDoorW.PrintLast Go.Proofs.YthdjmbbkenbeiaaDoorW.PrintMore Go.Proofs.YthdjmbbkenbeiaaDoor.P

def inQ (x : Int) : Bool := decide (0 ≤ x ∧ x ≤ 3328)
def polyOk (l : List Int) : Bool := decide (l.length = 256) && l.all inQ
theorem polyOk_len {l : List Int} (h : polyOk l = true) : l.length = 256 := by
  unfold polyOk at h; rw [Bool.and_eq_true] at h; exact of_decide_eq_true h.1
theorem polyOk_mem {l : List Int} (h : polyOk l = true) {x : Int} (hx : x ∈ l) : 0 ≤ x ∧ x ≤ 3328 := by
  unfold polyOk at h; rw [Bool.and_eq_true] at h
  exact of_decide_eq_true (List.all_eq_true.mp h.2 x hx)
theorem polyOk_get {l : List Int} (h : polyOk l = true) (i : Nat) (hi : i < l.length) : 0 ≤ l[i] ∧ l[i] ≤ 3328 := polyOk_mem h (List.getElem_mem hi)
theorem polyOk_mk {l : List Int} (h : l.length = 256) (hx : ∀ x ∈ l, 0 ≤ x ∧ x ≤ 3328) : polyOk l = true := by
  unfold polyOk; rw [Bool.and_eq_true]
  exact ⟨decide_eq_true h, List.all_eq_true.mpr fun x hm => decide_eq_true (hx x hm)⟩

theorem spec_PolyOk_ev (l : List Int) : Ev (fun k => spec_PolyOk.f k l) (polyOk l) := by
  unfold spec_PolyOk.f polyOk
  by_cases hl : l.length = 256
  · refine Ev.pos (by omega) ?_
    rw [decide_eq_true hl, Bool.true_and]
    refine Ev.upTo (g := fun i k => spec_PolyOk.l0 k l (i : Int)) (r := fun i => (l.drop i).all inQ) l.length ?_ ?_ 0 (by omega)
    · intro i hi h
      simp only [drop_all inQ l i hi]
      cases hb : inQ l[i] with
      | true =>
        rw [Bool.true_and]
        refine Ev.step (fun k => ?_) h
        simp only [spec_PolyOk.l0, l01In_eq, Option.bind_some]
        rw [if_pos (by omega), if_pos (by omega), rd_get l i hi, if_pos (show decide (0 ≤ l[i] ∧ l[i] ≤ 3328) = true from hb), w64s i (by omega)]
      | false =>
        rw [Bool.false_and]
        refine Ev.step (f := fun _ => some false) (fun k => ?_) (Ev.now _)
        simp only [spec_PolyOk.l0, l01In_eq, Option.bind_some]
        rw [if_pos (by omega), if_pos (by omega), rd_get l i hi, if_neg (by unfold inQ at hb; rw [hb]; decide)]
    · refine Ev.step (f := fun _ => some ((l.drop l.length).all inQ)) (fun k => ?_) (Ev.now _)
      simp only [spec_PolyOk.l0]
      rw [if_neg (by omega)]
      simp
  · refine Ev.neg (by omega) ?_
    rw [decide_eq_false hl, Bool.false_and]
    exact Ev.now _

theorem impl_PolyOk_ev (l : List Int) (hl : l.length ≤ 35184372088832) : Ev (fun k => impl_PolyOk.f k l) (polyOk l) := by
  unfold impl_PolyOk.f polyOk
  have h := Ev.upTo (g := fun i k => impl_PolyOk.l0 k l l (l.length : Int) (i : Int)) (r := fun i => decide (l.length = 256) && (l.drop i).all inQ) l.length ?_ ?_ 0 (by omega)
  · simpa using h
  · intro i hi h
    simp only [drop_all inQ l i hi]
    cases hb : inQ l[i] with
    | true =>
      rw [Bool.true_and]
      refine Ev.step (fun k => ?_) h
      simp only [impl_PolyOk.l0, in_eq, Option.bind_some]
      rw [if_pos (by omega), if_pos (by omega), if_pos (by omega), rd_get l i hi, if_pos (show decide (0 ≤ l[i] ∧ l[i] ≤ 3328) = true from hb), w64s i (by omega)]
    | false =>
      rw [Bool.false_and, Bool.and_false]
      refine Ev.step (f := fun _ => some false) (fun k => ?_) (Ev.now _)
      simp only [impl_PolyOk.l0, in_eq, Option.bind_some]
      rw [if_pos (by omega), if_pos (by omega), if_pos (by omega), rd_get l i hi, if_neg (by unfold inQ at hb; rw [hb]; decide)]
  · refine Ev.step (f := fun _ => some (decide (l.length = 256) && (l.drop l.length).all inQ)) (fun k => ?_) (Ev.now _)
    simp only [impl_PolyOk.l0]
    rw [if_neg (by omega)]
    simp
    by_cases h : l.length = 256
    · rw [decide_eq_true h, h]; rfl
    · rw [decide_eq_false h]; rw [beq_eq_false_iff_ne]; omega

end Go.Proofs.YthdjmbbkenbeiaaDoor.Pure
namespace Go.Proofs.YthdjmbbkenbeiaaDoor.Pure
open Go.RowKit Go.Proofs.YthdjmbbkenbeiaaDoorW.PrintWords Go.Proofs.YthdjmbbkenbeiaaDoorW.PrintLast Go.Proofs.YthdjmbbkenbeiaaDoorW.PrintMore Go.Proofs.YthdjmbbkenbeiaaDoor.P

def vec (f : Nat → Int) : List Int := (List.range 256).map f
theorem vec_length (f : Nat → Int) : (vec f).length = 256 := by simp [vec]
theorem vec_get (f : Nat → Int) (i : Nat) (h : i < (vec f).length) : (vec f)[i] = f i := by simp [vec]
theorem vec_rd (f : Nat → Int) (i : Nat) (h : i < 256) : rd (vec f) (i : Int) = f i := by rw [rd_get _ _ (by rw [vec_length]; exact h), vec_get]
theorem vec_congr {f g : Nat → Int} (h : ∀ i, i < 256 → f i = g i) : vec f = vec g := by
  apply List.ext_getElem
  · rw [vec_length, vec_length]
  · intro i h1 h2
    rw [vec_get, vec_get]
    exact h i (by rw [vec_length] at h1; exact h1)
theorem vec_set (f : Nat → Int) (n : Nat) (v : Int) : (vec f).set n v = vec fun i => if i = n then v else f i := by
  apply List.ext_getElem
  · rw [List.length_set, vec_length, vec_length]
  · intro i h1 h2
    rw [List.getElem_set, vec_get, vec_get]
    by_cases h : n = i
    · rw [if_pos h, if_pos h.symm]
    · rw [if_neg h, if_neg (fun e => h e.symm)]
theorem vec_of {l : List Int} (h : l.length = 256) : l = vec fun i => rd l i := by
  apply List.ext_getElem
  · rw [vec_length, h]
  · intro i h1 h2
    rw [vec_get, rd_get l i h1]
theorem vec_replicate (d : Int) : List.replicate 256 d = vec fun _ => d := by
  apply List.ext_getElem
  · rw [vec_length, List.length_replicate]
  · intro i h1 h2
    rw [vec_get, List.getElem_replicate]
theorem vec_ok {f : Nat → Int} (h : ∀ i, i < 256 → 0 ≤ f i ∧ f i ≤ 3328) : polyOk (vec f) = true := by
  refine polyOk_mk (vec_length f) fun x hx => ?_
  obtain ⟨i, hi, rfl⟩ := List.mem_map.mp hx
  exact h i (List.mem_range.mp hi)
theorem vec_ok_get {f : Nat → Int} (h : polyOk (vec f) = true) (i : Nat) (hi : i < 256) : 0 ≤ f i ∧ f i ≤ 3328 := by
  have := polyOk_get h i (by rw [vec_length]; exact hi)
  rwa [vec_get] at this
/-- A right polynomial is 256 numbers in their range. -/
theorem poly_vec {l : List Int} (h : polyOk l = true) : ∃ f, l = vec f ∧ ∀ i, i < 256 → 0 ≤ f i ∧ f i ≤ 3328 := by
  have e := vec_of (polyOk_len h)
  refine ⟨_, e, fun i hi => ?_⟩
  rw [e] at h
  exact vec_ok_get h i hi
/-- The same, each place 0 beyond the last. -/
theorem poly_vec' {l : List Int} (h : polyOk l = true) : ∃ f, l = vec f ∧ ∀ i, 0 ≤ f i ∧ f i ≤ 3328 := by
  obtain ⟨f, rfl, hf⟩ := poly_vec h
  refine ⟨fun i => if i < 256 then f i else 0, vec_congr fun i hi => (if_pos hi).symm, fun i => ?_⟩
  show 0 ≤ (if i < 256 then f i else 0) ∧ (if i < 256 then f i else 0) ≤ 3328
  split
  · exact hf i ‹_›
  · omega

theorem modQ_eq (n : Int) (h1 : -9223372036854775808 ≤ n) (h2 : n ≤ 9223372036854775807) : impl_modQ.f n = some (n % 3329) := by
  unfold impl_modQ.f
  congr 1
  by_cases h : 0 ≤ n
  · rw [Int.tmod_eq_emod_of_nonneg h, w64 (by omega) (by omega), Int.tmod_eq_emod_of_nonneg (by omega)]
    omega
  · have e : Int.tmod n 3329 = -((-n) % 3329) := by
      have := Int.neg_tmod (-n) 3329
      rw [Int.neg_neg] at this
      rw [this, Int.tmod_eq_emod_of_nonneg (by omega)]
    rw [e, w64 (by omega) (by omega), Int.tmod_eq_emod_of_nonneg (by omega)]
    omega

theorem mul_bd {x y : Int} (hx : 0 ≤ x ∧ x ≤ 3328) (hy : 0 ≤ y ∧ y ≤ 3328) : 0 ≤ x * y ∧ x * y ≤ 11075584 := by
  refine ⟨Int.mul_nonneg hx.1 hy.1, ?_⟩
  have := Int.mul_le_mul hx.2 hy.2 hy.1 (by omega)
  omega
theorem impl_PolyAdd_ev (a b : Nat → Int) (ha : ∀ i, 0 ≤ a i ∧ a i ≤ 3328) (hb : ∀ i, 0 ≤ b i ∧ b i ≤ 3328) : Ev (fun k => impl_PolyAdd.f k (vec a) (vec b)) (vec fun i => (a i + b i) % 3329) := by
  have key : Ev (fun k => impl_each_PolyAdd_1.f k (vec a) (vec b)) (vec fun i => (a i + b i) % 3329) := by
    unfold impl_each_PolyAdd_1.f
    have oka := vec_ok (f := a) fun i _ => ha i
    have okb := vec_ok (f := b) fun i _ => hb i
    have la := vec_length a
    have lb := vec_length b
    refine Ev.bind (oka ▸ impl_PolyOk_ev (vec a) (by omega)) (Ev.pos rfl (Ev.bind (okb ▸ impl_PolyOk_ev (vec b) (by omega)) ?_))
    refine Ev.step (f := fun k => impl_each_PolyAdd_1.l0 k (vec a) (vec b) (List.replicate 256 0) ((256 : Nat) : Int) 0) (fun k => ?_) ?_
    · simp only [impl_each_PolyAdd_1.j0, Option.bind_some]
      rw [if_neg (by decide), if_pos (by omega), List.length_replicate]
    · rw [vec_replicate]
      have key := Ev.up (g := fun i k => impl_each_PolyAdd_1.l0 k (vec a) (vec b) (vec fun n => if n < i then (a n + b n) % 3329 else 0) ((256 : Nat) : Int) (i : Int)) (r := vec fun i => (a i + b i) % 3329) 256 ?_ ?_ 0 (by omega)
      · have e : (vec fun _ => (0 : Int)) = vec fun n => if n < 0 then (a n + b n) % 3329 else 0 := vec_congr fun n _ => by rw [if_neg (by omega)]
        rw [e]; exact key
      · intro i hi h
        refine Ev.step (fun k => ?_) h
        have h1 := ha i
        have h2 := hb i
        simp only [impl_each_PolyAdd_1.l0, impl_PolyAdd_1.f, Option.bind_some]
        rw [if_pos (by omega), if_pos (by omega), if_pos (by omega), if_pos (by omega), vec_rd a i hi, vec_rd b i hi, w64 (x := a i + b i) (by omega) (by omega), modQ_eq _ (by omega) (by omega), Option.bind_some, if_pos (by rw [vec_length]; omega), Int.toNat_natCast, vec_set, w64s i (by omega)]
        have e : (vec fun n => if n = i then (a i + b i) % 3329 else if n < i then (a n + b n) % 3329 else 0) = vec fun n => if n < i + 1 then (a n + b n) % 3329 else 0 := by
          refine vec_congr fun n _ => ?_
          by_cases h1 : n = i
          · subst h1; rw [if_pos rfl, if_pos (by omega)]
          · rw [if_neg h1]
            by_cases h2 : n < i
            · rw [if_pos h2, if_pos (by omega)]
            · rw [if_neg h2, if_neg (by omega)]
        rw [e]
      · refine Ev.step (f := fun _ => some (vec fun i => (a i + b i) % 3329)) (fun k => ?_) (Ev.now _)
        simp only [impl_each_PolyAdd_1.l0]
        rw [if_neg (by omega)]
        exact congrArg some (vec_congr fun n hn => if_pos hn)
  unfold impl_PolyAdd.f
  exact Ev.bind key (Ev.now _)

end Go.Proofs.YthdjmbbkenbeiaaDoor.Pure
namespace Go.Proofs.YthdjmbbkenbeiaaDoor.Pure
open Go.RowKit Go.Proofs.YthdjmbbkenbeiaaDoorW.PrintWords Go.Proofs.YthdjmbbkenbeiaaDoorW.PrintLast Go.Proofs.YthdjmbbkenbeiaaDoorW.PrintMore Go.Proofs.YthdjmbbkenbeiaaDoor.P

def natL (l : List Int) : List Nat := l.map Int.toNat
theorem natL_length (l : List Int) : (natL l).length = l.length := by simp [natL]
def packV (b : Nat) (l : List Int) : ByteArray := strOfNums (bytesL ((l.length * b + 7) / 8) (valB b (natL l)))
def fitsB (b : Nat) (x : Int) : Bool := decide (0 ≤ x ∧ x ≤ 2 ^ b - 1)
def packR (l : List Int) (b : Int) : ByteArray × Bool :=
  if (1 ≤ b ∧ b ≤ 12) ∧ l.all (fitsB b.toNat) = true then (packV b.toNat l, true) else (⟨#[]⟩, false)

theorem fits_nat {b : Nat} {l : List Int} (h : l.all (fitsB b) = true) : ∀ x ∈ natL l, x < 2 ^ b := by
  intro x hx
  obtain ⟨y, hy, rfl⟩ := List.mem_map.mp hx
  have h2 := of_decide_eq_true (List.all_eq_true.mp h y hy)
  have h3 : ((2 ^ b : Nat) : Int) = (2 : Int) ^ b := by simp
  omega
/-- The first i numbers, as one. -/
def valT (b : Nat) (l : List Int) (i : Nat) : Nat := valB b ((natL l).take i)
theorem valT_succ (b : Nat) (l : List Int) (i : Nat) (h : i < l.length) : valT b l (i + 1) = valT b l i + 2 ^ (b * i) * l[i].toNat := by
  unfold valT
  rw [valB_take_succ b (natL l) i (by rw [natL_length]; exact h)]
  simp [natL]
theorem valT_lt {b : Nat} {l : List Int} (h : l.all (fitsB b) = true) (i : Nat) (hi : i ≤ l.length) : valT b l i < 2 ^ (b * i) := by
  have := valB_lt b ((natL l).take i) fun x hx => fits_nat h x (List.mem_of_mem_take hx)
  rw [List.length_take, natL_length, Nat.min_eq_left hi] at this
  exact this
theorem valT_all (b : Nat) (l : List Int) : valT b l l.length = valB b (natL l) := by
  unfold valT; rw [List.take_of_length_le (by rw [natL_length]; exact Nat.le_refl _)]
theorem get_nat {b : Nat} {l : List Int} (h : l.all (fitsB b) = true) (i : Nat) (hi : i < l.length) : ∃ n : Nat, l[i] = (n : Int) ∧ n < 2 ^ b := by
  have h2 := of_decide_eq_true (List.all_eq_true.mp h l[i] (List.getElem_mem hi))
  have h3 : ((2 ^ b : Nat) : Int) = (2 : Int) ^ b := by simp
  exact ⟨l[i].toNat, by omega, by omega⟩

theorem tdiv_nat (m c : Nat) : Int.tdiv (m : Int) (c : Int) = ((m / c : Nat) : Int) := by
  rw [Int.tdiv_eq_ediv_of_nonneg (by omega)]; rfl
theorem tmod_nat (m c : Nat) : Int.tmod (m : Int) (c : Int) = ((m % c : Nat) : Int) := by
  rw [Int.tmod_eq_emod_of_nonneg (by omega)]; rfl
theorem tdiv8 (m : Nat) : Int.tdiv (m : Int) 8 = ((m / 8 : Nat) : Int) := tdiv_nat m 8
theorem tmod8 (m : Nat) : Int.tmod (m : Int) 8 = ((m % 8 : Nat) : Int) := tmod_nat m 8
theorem w64n (m : Nat) (h : m ≤ 9223372036854775807) : wrap64 (m : Int) = (m : Int) := w64 (by omega) (by omega)
theorem i64_and1 (n : Nat) (h : n < 2 ^ 62) : Go.bits .and .i64 (n : Int) 1 = ((n % 2 : Nat) : Int) := by
  have := bits_mask .i64 63 (by decide) (fun n h0 h1 => by rw [IntKind.wrap_i64]; omega) 1 (by decide) (n : Int) (by omega) (by
    have : ((2 ^ 62 : Nat) : Int) = 2 ^ 62 := by simp
    omega)
  simpa using this
theorem u8_or_bit (a t b : Nat) (ha : a < 2 ^ t) (ht : t ≤ 7) (hb : b ≤ 1) : Go.bits .or .u8 (a : Int) ((b * 2 ^ t : Nat) : Int) = ((a + b * 2 ^ t : Nat) : Int) := by
  have h7 : 2 ^ t ≤ 128 := Nat.pow_le_pow_right (n := 2) (by omega) ht
  have hb2 : b * 2 ^ t ≤ 2 ^ t := by
    have := Nat.mul_le_mul_right (2 ^ t) hb
    omega
  rw [(bits_nat .u8 8 (by decide) wraps_u8 a (b * 2 ^ t) (by omega) (by omega)).2, Nat.or_comm, Nat.mul_comm b, ← Nat.two_pow_add_eq_or_of_lt ha b, Nat.add_comm]
theorem shl_u8_bit (b t : Nat) (ht : t ≤ 7) (hb : b ≤ 1) : shl .u8 (b : Int) (t : Int) = ((b * 2 ^ t : Nat) : Int) := by
  have h7 : 2 ^ t ≤ 128 := Nat.pow_le_pow_right (n := 2) (by omega) ht
  have hb2 : b * 2 ^ t ≤ 2 ^ t := by
    have := Nat.mul_le_mul_right (2 ^ t) hb
    omega
  unfold shl
  rw [Int.toNat_natCast, show min t IntKind.u8.bits = t by simp [IntKind.bits]; omega, IntKind.wrap_u8]
  have : ((b * 2 ^ t : Nat) : Int) = (b : Int) * 2 ^ t := by simp
  omega
theorem shr_nat (k : IntKind) (n t : Nat) (ht : t ≤ k.bits) : shr k (n : Int) (t : Int) = ((n / 2 ^ t : Nat) : Int) := by
  unfold shr
  rw [Int.toNat_natCast, Nat.min_eq_left ht]
  simp
theorem mod_succ_bit (x k : Nat) : x % 2 ^ (k + 1) = x % 2 ^ k + 2 ^ k * (x / 2 ^ k % 2) := by
  rw [Nat.pow_succ, Nat.mod_mul]

theorem packed_bit (L V b i j x : Nat) (hV : V < 2 ^ (b * i)) :
    (bytesL L (V + 2 ^ (b * i) * (x % 2 ^ j))).set ((i * b + j) / 8) (Go.bits .or .u8 (((V + 2 ^ (b * i) * (x % 2 ^ j)) / 256 ^ ((i * b + j) / 8) % 256 : Nat) : Int) (shl .u8 (((x / 2 ^ j % 2 : Nat) : Int) % 256) (((i * b + j) % 8 : Nat) : Int)))
      = bytesL L (V + 2 ^ (b * i) * (x % 2 ^ (j + 1))) := by
  obtain ⟨m, hm⟩ : ∃ m, i * b + j = m := ⟨_, rfl⟩
  have hmb : b * i + j = m := by rw [← hm, Nat.mul_comm]
  obtain ⟨S, hSe⟩ : ∃ S, V + 2 ^ (b * i) * (x % 2 ^ j) = S := ⟨_, rfl⟩
  obtain ⟨u, hu⟩ : ∃ u, x / 2 ^ j % 2 = u := ⟨_, rfl⟩
  have hu1 : u ≤ 1 := by omega
  have hS : S < 2 ^ m := by
    have h1 : x % 2 ^ j < 2 ^ j := Nat.mod_lt _ (Nat.two_pow_pos j)
    have h2 : 2 ^ (b * i) * (x % 2 ^ j) + 2 ^ (b * i) ≤ 2 ^ (b * i) * 2 ^ j := by rw [← Nat.mul_succ]; exact Nat.mul_le_mul_left _ h1
    rw [← hSe, ← hmb, Nat.pow_add]
    exact Nat.lt_of_lt_of_le (Nat.lt_of_lt_of_le (Nat.add_lt_add_right hV _) (by rw [Nat.add_comm]; exact Nat.le_refl _)) h2
  have hnext : V + 2 ^ (b * i) * (x % 2 ^ (j + 1)) = S + u * 2 ^ m := by
    rw [mod_succ_bit, Nat.mul_add, ← hSe, ← hmb, hu, Nat.pow_add, Nat.mul_comm u, Nat.mul_assoc, Nat.add_assoc]
  have hold : S / 256 ^ (m / 8) < 2 ^ (m % 8) := by
    rw [Nat.div_lt_iff_lt_mul (Nat.pow_pos (by omega)), pow256, ← Nat.pow_add, show m % 8 + 8 * (m / 8) = m by omega]; exact hS
  have h128 : 2 ^ (m % 8) ≤ 128 := Nat.pow_le_pow_right (n := 2) (by omega) (show m % 8 ≤ 7 by omega)
  have hset := bytesL_bit L S m u hS hu1
  rw [hm, hSe, hnext, hu, show ((u : Nat) : Int) % 256 = ((u : Nat) : Int) by omega, shl_u8_bit u (m % 8) (by omega) hu1, Nat.mod_eq_of_lt (Nat.lt_of_lt_of_le hold (Nat.le_trans h128 (by omega))), u8_or_bit _ (m % 8) u hold (by omega) hu1]
  rw [Nat.mod_eq_of_lt (Nat.lt_of_lt_of_le hold (Nat.le_trans h128 (by omega)))] at hset
  exact hset

theorem impl_packed_in (l : List Int) (b : Nat) (hb1 : 1 ≤ b) (hb : b ≤ 12) (hl : l.length ≤ 1099511627776) (hf : l.all (fitsB b) = true) (i : Nat) (hi : i < l.length) {r : ByteArray}
    (h : Ev (fun k => impl_packed.l0 k (b : Int) (bytesL ((l.length * b + 7) / 8) (valT b l (i + 1))) l (l.length : Int) ((i + 1 : Nat) : Int)) r) :
    Ev (fun k => impl_packed.l1 k (b : Int) (bytesL ((l.length * b + 7) / 8) (valT b l i)) (i : Int) l[i] l (l.length : Int) (i : Int) (b : Int) 0) r := by
  obtain ⟨x, hx, hxb⟩ := get_nat hf i hi
  have hib : i * b + b ≤ l.length * b := by rw [← Nat.succ_mul]; exact Nat.mul_le_mul_right _ hi
  have hlb : l.length * b ≤ 13194139533312 := Nat.le_trans (Nat.mul_le_mul_left _ hb) (by omega)
  have hV := valT_lt hf i (by omega)
  have h12 : 2 ^ b ≤ 4096 := Nat.pow_le_pow_right (n := 2) (by omega) hb
  have hx12 : x < 4096 := by omega
  have e := Ev.up (g := fun j k => impl_packed.l1 k (b : Int) (bytesL ((l.length * b + 7) / 8) (valT b l i + 2 ^ (b * i) * (x % 2 ^ j))) (i : Int) l[i] l (l.length : Int) (i : Int) (b : Int) (j : Int)) (r := r) b ?_ ?_ 0 (by omega)
  · simpa [Nat.mod_one] using e
  · intro j hj h'
    refine Ev.step (fun k => ?_) h'
    have n1 : i * b ≤ 9223372036854775807 := by clear hV hx h h12; omega
    have n2 : i * b + j ≤ 9223372036854775807 := by clear hV hx h h12; omega
    have n3 : (i * b + j) / 8 ≤ 9223372036854775807 := by clear hV hx h h12; omega
    have q0 : (i * b + j) / 8 < (l.length * b + 7) / 8 := by clear hV hx h h12; omega
    have q1 : (((i * b + j) / 8 : Nat) : Int) < (((l.length * b + 7) / 8 : Nat) : Int) := Int.ofNat_lt.mpr q0
    have j64 : j ≤ IntKind.i64.bits := by clear hV hx h h12; simp [IntKind.bits]; omega
    have jw := w64s j (by clear hV hx h h12; omega)
    have e1 : wrap64 ((wrap64 ((i : Int) * (b : Int))) + (j : Int)) = ((i * b + j : Nat) : Int) := by
      have e0 : (i : Int) * (b : Int) = ((i * b : Nat) : Int) := by simp
      rw [e0, w64n (i * b) n1]
      exact w64n (i * b + j) n2
    have e2 : wrap64 (((i * b + j) / 8 : Nat) : Int) = (((i * b + j) / 8 : Nat) : Int) := w64n _ n3
    have e3 : Go.bits .and .i64 ((x / 2 ^ j : Nat) : Int) 1 = ((x / 2 ^ j % 2 : Nat) : Int) := i64_and1 _ (Nat.lt_of_le_of_lt (Nat.div_le_self _ _) (Nat.lt_trans hx12 (by decide)))
    have e4 := packed_bit ((l.length * b + 7) / 8) (valT b l i) b i j x hV
    simp only [impl_packed.l1]
    rw [e1, tdiv8, tmod8, e2, if_pos (Int.ofNat_lt.mpr hj), if_pos (Int.natCast_nonneg _), if_pos (by rw [bytesL_length]; exact q1), if_pos (Int.natCast_nonneg _), if_pos (Int.natCast_nonneg _), Int.toNat_natCast,
      rd_get _ _ (by rw [bytesL_length]; exact q0), bytesL_get, hx, shr_nat .i64 x j j64, e3, e4, jw]
  · refine Ev.step (f := fun k => impl_packed.l0 k (b : Int) (bytesL ((l.length * b + 7) / 8) (valT b l (i + 1))) l (l.length : Int) ((i + 1 : Nat) : Int)) (fun k => ?_) h
    simp only [impl_packed.l1]
    rw [if_neg (by omega), w64s i (by omega), valT_succ b l i hi, Nat.mod_eq_of_lt hxb, hx, Int.toNat_natCast]

theorem impl_packed_ev (l : List Int) (b : Nat) (hb1 : 1 ≤ b) (hb : b ≤ 12) (hl : l.length ≤ 1099511627776) (hf : l.all (fitsB b) = true) : Ev (fun k => impl_packed.f k l (b : Int)) (packV b l) := by
  have hlb : l.length * b ≤ 13194139533312 := Nat.le_trans (Nat.mul_le_mul_left _ hb) (by omega)
  have e1 : wrap64 (Int.tdiv (wrap64 ((wrap64 ((l.length : Int) * (b : Int))) + 7)) 8) = (((l.length * b + 7) / 8 : Nat) : Int) := by
    have e0 : (l.length : Int) * (b : Int) = ((l.length * b : Nat) : Int) := by simp
    rw [e0, w64n (l.length * b) (by omega), show ((l.length * b : Nat) : Int) + 7 = ((l.length * b + 7 : Nat) : Int) by omega, w64n (l.length * b + 7) (by omega), tdiv8, w64n ((l.length * b + 7) / 8) (by omega)]
  unfold impl_packed.f packV
  rw [e1, Int.toNat_natCast]
  refine Ev.pos (by omega) (Ev.pos (by omega) ?_)
  rw [← valT_all]
  have h := Ev.up (g := fun i k => impl_packed.l0 k (b : Int) (bytesL ((l.length * b + 7) / 8) (valT b l i)) l (l.length : Int) (i : Int)) (r := strOfNums (bytesL ((l.length * b + 7) / 8) (valT b l l.length))) l.length ?_ ?_ 0 (by omega)
  · simpa [valT, valB, bytesL_zero] using h
  · intro i hi h
    refine Ev.step (fun k => ?_) (impl_packed_in l b hb1 hb hl hf i hi h)
    simp only [impl_packed.l0]
    rw [if_pos (by omega), if_pos (by omega), if_pos (by omega), rd_get l i hi]
  · refine Ev.step (f := fun _ => some (strOfNums (bytesL ((l.length * b + 7) / 8) (valT b l l.length)))) (fun k => ?_) (Ev.now _)
    simp only [impl_packed.l0]
    rw [if_neg (by omega)]

theorem not_all {α : Type} {p : α → Bool} {l : List α} (h : ¬ l.all p = true) : ∃ i, ∃ h : i < l.length, p l[i] = false := by
  rw [List.all_eq_true] at h
  simp only [Classical.not_forall] at h
  obtain ⟨x, hx, hp⟩ := h
  obtain ⟨i, hi, rfl⟩ := List.mem_iff_getElem.mp hx
  exact ⟨i, hi, by simpa using hp⟩

set_option maxHeartbeats 1000000 in
theorem spec_Pack_l2 (l : List Int) (b : Nat) (hb1 : 1 ≤ b) (hb : b ≤ 12) (hl : l.length ≤ 1099511627776) (hf : l.all (fitsB b) = true) (i : Nat) (hi : i < l.length) {r : ByteArray × Bool}
    (h : Ev (fun k => spec_Pack.l1 k l (b : Int) (bytesL (b * (i + 1) / 8) (valT b l (i + 1))) ((valT b l (i + 1) / 256 ^ (b * (i + 1) / 8) : Nat) : Int) ((b * (i + 1) % 8 : Nat) : Int) ((i + 1 : Nat) : Int)) r) :
    Ev (fun k => spec_Pack.l2 k l (b : Int) (bytesL (b * i / 8) (valT b l (i + 1))) ((valT b l (i + 1) / 256 ^ (b * i / 8) : Nat) : Int) ((b * (i + 1) - 8 * (b * i / 8) : Nat) : Int) (i : Int)) r := by
  have hlb : b * l.length ≤ 13194139533312 := Nat.le_trans (Nat.mul_le_mul_right _ hb) (by omega)
  have hib : b * (i + 1) ≤ b * l.length := Nat.mul_le_mul_left _ hi
  have hbs : b * (i + 1) = b * i + b := Nat.mul_succ b i
  have hV := valT_lt hf (i + 1) (by omega)
  refine Ev.upFrom (g := fun p k => spec_Pack.l2 k l (b : Int) (bytesL p (valT b l (i + 1))) ((valT b l (i + 1) / 256 ^ p : Nat) : Int) ((b * (i + 1) - 8 * p : Nat) : Int) (i : Int)) (b * i / 8) (b * (i + 1) / 8) ?_ ?_ (by omega)
  · intro p hp0 hp h'
    refine Ev.step (fun k => ?_) h'
    have hsmall : valT b l (i + 1) / 256 ^ p < 2 ^ 20 := by
      rw [Nat.div_lt_iff_lt_mul (Nat.pow_pos (by omega)), pow256, ← Nat.pow_add]
      exact Nat.lt_of_lt_of_le hV (Nat.pow_le_pow_right (by omega) (by omega))
    have e1 : Int.tmod ((valT b l (i + 1) / 256 ^ p : Nat) : Int) 256 % 256 = ((valT b l (i + 1) / 256 ^ p % 256 : Nat) : Int) := by
      rw [show (256 : Int) = ((256 : Nat) : Int) from rfl, tmod_nat]; omega
    have e2 : wrap64 (Int.tdiv ((valT b l (i + 1) / 256 ^ p : Nat) : Int) 256) = ((valT b l (i + 1) / 256 ^ (p + 1) : Nat) : Int) := by
      rw [show (256 : Int) = ((256 : Nat) : Int) from rfl, tdiv_nat, Nat.pow_succ, ← Nat.div_div_eq_div_mul, w64n (valT b l (i + 1) / 256 ^ p / 256) (by omega)]
    simp only [spec_Pack.l2]
    rw [if_pos (by omega), if_pos (by rw [bytesL_length]; omega), e1, e2, bytesL_snoc, w64 (by omega) (by omega)]
    congr 1
    omega
  · refine Ev.step (fun k => ?_) h
    simp only [spec_Pack.l2]
    rw [if_neg (by omega), w64s i (by omega)]
    congr 1
    omega

theorem spec_Pack_ev (l : List Int) (b : Int) (hl : l.length ≤ 1099511627776) : Ev (fun k => spec_Pack.f k l b) (packR l b) := by
  unfold spec_Pack.f packR
  simp only [l01In_eq, Option.bind_some]
  by_cases hb : 1 ≤ b ∧ b ≤ 12
  · refine Ev.pos (by simpa using hb) ?_
    obtain ⟨c, rfl⟩ : ∃ c : Nat, b = (c : Int) := ⟨b.toNat, by omega⟩
    rw [Int.toNat_natCast]
    have h12 : (2 : Int) ^ c ≤ 4096 := by
      have : ((2 ^ c : Nat) : Int) ≤ ((2 ^ 12 : Nat) : Int) := Int.ofNat_le.mpr (Nat.pow_le_pow_right (by omega) (by omega))
      simpa using this
    have h0 := two_pos c
    have es : wrap64 ((2 : Int) ^ c - 1) = 2 ^ c - 1 := w64 (by omega) (by omega)
    have e2 := l11Two_ev (c : Int) (by omega)
    rw [Int.toNat_natCast] at e2
    by_cases hf : l.all (fitsB c) = true
    · rw [if_pos ⟨hb, hf⟩]
      refine Ev.up (g := fun i k => spec_Pack.l0 k l (c : Int) (i : Int)) (r := (packV c l, true)) l.length ?_ ?_ 0 (by omega)
      · intro i hi h
        refine Ev.step (f := fun k => (spec_l11Two.f k (c : Int)).bind fun t148 => ((spec_l01In.f (rd l (i : Int)) 0 (wrap64 (t148 - 1))).bind fun t149 => (if t149 = true then (spec_Pack.l0 k l (c : Int) (wrap64 ((i : Int) + 1))) else (some ((⟨#[]⟩ : ByteArray), false))))) (fun k => ?_) ?_
        · simp only [spec_Pack.l0]
          rw [if_pos (by omega), if_pos (by omega)]
        · refine Ev.bind e2 ?_
          simp only [es, l01In_eq, Option.bind_some]
          rw [rd_get l i hi, w64s i (by omega)]
          exact Ev.pos (List.all_eq_true.mp hf _ (List.getElem_mem hi)) h
      · refine Ev.step (f := fun k => spec_Pack.l1 k l (c : Int) (([] : List Int)) 0 0 0) (fun k => ?_) ?_
        · simp only [spec_Pack.l0]
          rw [if_neg (by omega)]
        · have key := Ev.up (g := fun i k => spec_Pack.l1 k l (c : Int) (bytesL (c * i / 8) (valT c l i)) ((valT c l i / 256 ^ (c * i / 8) : Nat) : Int) ((c * i % 8 : Nat) : Int) (i : Int)) (r := (packV c l, true)) l.length ?_ ?_ 0 (by omega)
          · simpa [valT, valB, bytesL] using key
          · intro i hi h
            have hlb : c * l.length ≤ 13194139533312 := Nat.le_trans (Nat.mul_le_mul_right l.length (show c ≤ 12 by omega)) (by omega)
            have hib : c * (i + 1) ≤ c * l.length := Nat.mul_le_mul_left _ hi
            have hbs : c * (i + 1) = c * i + c := Nat.mul_succ c i
            obtain ⟨x, hx, hxb⟩ := get_nat hf i hi
            have hV := valT_lt hf i (by omega)
            have hq : valT c l i / 256 ^ (c * i / 8) < 2 ^ (c * i % 8) := by
              rw [Nat.div_lt_iff_lt_mul (Nat.pow_pos (by omega)), pow256, ← Nat.pow_add, show c * i % 8 + 8 * (c * i / 8) = c * i by omega]; exact hV
            have h128 : 2 ^ (c * i % 8) ≤ 128 := Nat.pow_le_pow_right (n := 2) (by omega) (show c * i % 8 ≤ 7 by omega)
            have h4096 : 2 ^ c ≤ 4096 := Nat.pow_le_pow_right (n := 2) (by omega) (show c ≤ 12 by omega)
            have hxc : x * 2 ^ (c * i % 8) ≤ 4096 * 128 := Nat.mul_le_mul (by omega) h128
            have ed : valT c l (i + 1) / 256 ^ (c * i / 8) = valT c l i / 256 ^ (c * i / 8) + x * 2 ^ (c * i % 8) := by
              have : 2 ^ (c * i) = 256 ^ (c * i / 8) * 2 ^ (c * i % 8) := by rw [pow256, ← Nat.pow_add]; congr 1; omega
              rw [valT_succ c l i hi, hx, Int.toNat_natCast, this, Nat.mul_assoc, Nat.add_mul_div_left _ _ (Nat.pow_pos (by omega)), Nat.mul_comm x]
            have eb : bytesL (c * i / 8) (valT c l i) = bytesL (c * i / 8) (valT c l (i + 1)) := by
              apply List.ext_getElem
              · simp [bytesL]
              · intro j h1 h2
                rw [bytesL_get, bytesL_get]
                congr 1
                have hj : j < c * i / 8 := by simpa [bytesL] using h1
                rw [valT_succ c l i hi]
                obtain ⟨d, hd⟩ : ∃ d, c * i = 8 * (j + 1) + d := ⟨c * i - 8 * (j + 1), by omega⟩
                have : 2 ^ (c * i) * l[i].toNat = 256 ^ j * (256 * (2 ^ d * l[i].toNat)) := by
                  rw [hd, Nat.pow_add, ← pow256, Nat.pow_succ]; simp only [Nat.mul_assoc]
                rw [this, Nat.add_mul_div_left _ _ (Nat.pow_pos (by omega)), Nat.add_mul_mod_self_left]
            have e3 := l11Two_ev ((c * i % 8 : Nat) : Int) (by omega)
            rw [Int.toNat_natCast] at e3
            refine Ev.step (f := fun k => (spec_l11Two.f k ((c * i % 8 : Nat) : Int)).bind fun t157 => (spec_Pack.l2 k l (c : Int) (bytesL (c * i / 8) (valT c l i)) (wrap64 (((valT c l i / 256 ^ (c * i / 8) : Nat) : Int) + (wrap64 ((rd l (i : Int)) * t157)))) (wrap64 (((c * i % 8 : Nat) : Int) + (c : Int))) (i : Int))) (fun k => ?_) (Ev.bind e3 ?_)
            · simp only [spec_Pack.l1]
              rw [if_pos (by omega), if_pos (by omega)]
            · have h2 := spec_Pack_l2 l c (by omega) (by omega) hl hf i hi h
              have em : (x : Int) * 2 ^ (c * i % 8) = ((x * 2 ^ (c * i % 8) : Nat) : Int) := by simp
              rw [rd_get l i hi, hx, em, w64n (x * 2 ^ (c * i % 8)) (by omega), eb, w64 (x := ((valT c l i / 256 ^ (c * i / 8) : Nat) : Int) + ((x * 2 ^ (c * i % 8) : Nat) : Int)) (by have hA := Int.natCast_nonneg (valT c l i / 256 ^ (c * i / 8)); have hB := Int.natCast_nonneg (x * 2 ^ (c * i % 8)); omega) (by omega), w64 (x := ((c * i % 8 : Nat) : Int) + (c : Int)) (by omega) (by omega)]
              rw [ed] at h2
              refine Ev.congr (fun k => ?_) h2
              congr 1
              omega
          · have hlb : c * l.length ≤ 13194139533312 := Nat.le_trans (Nat.mul_le_mul_right l.length (show c ≤ 12 by omega)) (by omega)
            have hmc : l.length * c = c * l.length := Nat.mul_comm _ _
            unfold packV
            rw [← valT_all]
            by_cases h8 : c * l.length % 8 = 0
            · refine Ev.step (f := fun _ => some (strOfNums (bytesL (c * l.length / 8) (valT c l l.length)), true)) (fun k => ?_) ?_
              · simp only [spec_Pack.l1]
                rw [if_neg (by omega), if_neg (by omega)]
              · rw [show (l.length * c + 7) / 8 = c * l.length / 8 by omega]; exact Ev.now _
            · refine Ev.step (f := fun _ => some (strOfNums (bytesL (c * l.length / 8 + 1) (valT c l l.length)), true)) (fun k => ?_) ?_
              · simp only [spec_Pack.l1]
                rw [if_neg (by omega), if_pos (by omega), if_pos (by rw [bytesL_length]; omega), ← bytesL_snoc]
                rfl
              · rw [show (l.length * c + 7) / 8 = c * l.length / 8 + 1 by omega]; exact Ev.now _
    · rw [if_neg (fun h => hf h.2)]
      obtain ⟨n, hn, hbad⟩ := not_all hf
      have step : ∀ i, (hi : i < l.length) → ∀ {r : ByteArray × Bool}, Ev (fun k => if fitsB c l[i] = true then spec_Pack.l0 k l (c : Int) ((i + 1 : Nat) : Int) else some ((⟨#[]⟩ : ByteArray), false)) r → Ev (fun k => spec_Pack.l0 k l (c : Int) (i : Int)) r := by
        intro i hi r h
        refine Ev.step (f := fun k => (spec_l11Two.f k (c : Int)).bind fun t148 => ((spec_l01In.f (rd l (i : Int)) 0 (wrap64 (t148 - 1))).bind fun t149 => (if t149 = true then (spec_Pack.l0 k l (c : Int) (wrap64 ((i : Int) + 1))) else (some ((⟨#[]⟩ : ByteArray), false))))) (fun k => ?_) ?_
        · simp only [spec_Pack.l0]
          rw [if_pos (by omega), if_pos (by omega)]
        · refine Ev.bind e2 ?_
          simp only [es, l01In_eq, Option.bind_some]
          rw [rd_get l i hi, w64s i (by omega)]
          exact h
      refine Ev.up (g := fun i k => spec_Pack.l0 k l (c : Int) (i : Int)) n ?_ (step n hn (Ev.neg (by rw [hbad]; decide) (Ev.now _))) 0 (by omega)
      intro i hi h
      refine step i (by omega) ?_
      by_cases hfi : fitsB c (l[i]'(by omega)) = true
      · exact Ev.pos hfi h
      · exact Ev.neg hfi (Ev.now _)
  · rw [if_neg (fun h => hb h.1)]
    exact Ev.neg (by simpa using hb) (Ev.now _)

def polyBytesV (l : List Int) : ByteArray := if polyOk l = true then packV 12 l else ⟨#[]⟩
theorem polyOk_fits {l : List Int} (h : polyOk l = true) : l.all (fitsB 12) = true := by
  rw [List.all_eq_true]
  intro x hx
  have := polyOk_mem h hx
  exact decide_eq_true ⟨this.1, by omega⟩
theorem packR_poly {l : List Int} (h : polyOk l = true) : packR l 12 = (packV 12 l, true) := by
  unfold packR
  rw [if_pos ⟨by omega, polyOk_fits h⟩]
  rfl
theorem spec_PolyBytes_ev (l : List Int) : Ev (fun k => spec_PolyBytes.f k l) (polyBytesV l) := by
  unfold spec_PolyBytes.f polyBytesV
  refine Ev.bind (spec_PolyOk_ev l) ?_
  by_cases h : polyOk l = true
  · have hl := polyOk_len h
    refine Ev.pos h ?_
    have := spec_Pack_ev l 12 (by omega)
    rw [packR_poly h] at this
    rw [if_pos h]
    exact Ev.bind this (Ev.now _)
  · rw [if_neg h]
    exact Ev.neg h (Ev.now _)
theorem impl_PolyBytes_ev (l : List Int) (hl : l.length ≤ 35184372088832) : Ev (fun k => impl_PolyBytes.f k l) (polyBytesV l) := by
  unfold impl_PolyBytes.f polyBytesV
  refine Ev.bind (impl_PolyOk_ev l hl) ?_
  by_cases h : polyOk l = true
  · have hl := polyOk_len h
    refine Ev.pos h ?_
    rw [if_pos h]
    exact Ev.bind (impl_packed_ev l 12 (by omega) (by omega) (by omega) (polyOk_fits h)) (Ev.now _)
  · rw [if_neg h]
    exact Ev.neg h (Ev.now _)
end Go.Proofs.YthdjmbbkenbeiaaDoor.Pure
namespace Go.Proofs.YthdjmbbkenbeiaaDoor.Pure
open Go.RowKit Go.Proofs.YthdjmbbkenbeiaaDoorW.PrintWords Go.Proofs.YthdjmbbkenbeiaaDoorW.PrintLast Go.Proofs.YthdjmbbkenbeiaaDoorW.PrintMore Go.Proofs.YthdjmbbkenbeiaaDoor.P

theorem EqQ.pow {x y : Int} (h : EqQ x y) (n : Nat) : EqQ (x ^ n) (y ^ n) := by
  induction n with
  | zero => rw [Int.pow_zero, Int.pow_zero]; exact EqQ.refl _
  | succ n ih => rw [Int.pow_succ, Int.pow_succ]; exact EqQ.mul ih h
theorem pow_half (b : Int) (e : Nat) : b ^ e = (b * b) ^ (e / 2) * b ^ (e % 2) := by
  have h1 : ∀ n : Nat, (b * b) ^ n = b ^ (2 * n) := by
    intro n
    induction n with
    | zero => rw [Nat.mul_zero, Int.pow_zero, Int.pow_zero]
    | succ n ih => rw [Int.pow_succ, ih, show 2 * (n + 1) = 2 * n + 1 + 1 by omega, Int.pow_succ, Int.pow_succ, Int.mul_assoc]
  rw [h1, ← Int.pow_add]
  congr 1
  omega
def pw (b : Int) (e : Nat) : Int := b ^ e % 3329
theorem pw_in (b : Int) (e : Nat) : 0 ≤ pw b e ∧ pw b e ≤ 3328 := mod_in _
theorem sq_mod {x y : Int} (hx : 0 ≤ x ∧ x ≤ 3328) (hy : 0 ≤ y ∧ y ≤ 3328) : Int.tmod (wrap64 (x * y)) 3329 = x * y % 3329 := by
  have := mul_bd hx hy
  rw [w64 (x := x * y) (by omega) (by omega), Int.tmod_eq_emod_of_nonneg (by omega)]
theorem half_e (e : Nat) (h : e ≤ 1000000000) : wrap64 (Int.tdiv (e : Int) 2) = ((e / 2 : Nat) : Int) := by
  rw [Int.tdiv_eq_ediv_of_nonneg (by omega), w64 (by omega) (by omega)]; rfl
theorem odd_e (e : Nat) : Int.tmod (e : Int) 2 = ((e % 2 : Nat) : Int) := by
  rw [Int.tmod_eq_emod_of_nonneg (by omega)]; rfl

theorem impl_PowQ_l0 (d : Nat) : ∀ (e : Nat) (b out : Int), e ≤ d → e ≤ 1000000000 → 0 ≤ b ∧ b ≤ 3328 → 0 ≤ out ∧ out ≤ 3328 → Ev (fun k => impl_PowQ.l0 k b (e : Int) out) (out * b ^ e % 3329) := by
  induction d with
  | zero =>
    intro e b out hd _ hb ho
    obtain rfl : e = 0 := by omega
    refine Ev.step (f := fun _ => some (out * b ^ 0 % 3329)) (fun k => ?_) (Ev.now _)
    simp only [impl_PowQ.l0]
    rw [if_neg (by omega), Int.pow_zero, Int.mul_one, Int.emod_eq_of_lt ho.1 (by omega)]
  | succ d ih =>
    intro e b out hd he hb ho
    by_cases h0 : e = 0
    · subst h0
      refine Ev.step (f := fun _ => some (out * b ^ 0 % 3329)) (fun k => ?_) (Ev.now _)
      simp only [impl_PowQ.l0]
      rw [if_neg (by omega), Int.pow_zero, Int.mul_one, Int.emod_eq_of_lt ho.1 (by omega)]
    · by_cases h1 : e % 2 = 1
      · have h := ih (e / 2) (b * b % 3329) (out * b % 3329) (by omega) (by omega) (mod_in _) (mod_in _)
        have e1 : out * b % 3329 * (b * b % 3329) ^ (e / 2) % 3329 = out * b ^ e % 3329 := by
          refine EqQ.eqm ?_
          refine (EqQ.mul (EqQ.mod _) (EqQ.pow (EqQ.mod _) _)).trans (EqQ.of ?_)
          rw [pow_half b e, h1, Int.pow_one, Int.mul_assoc, Int.mul_comm b]
        rw [e1] at h
        refine Ev.step (fun k => ?_) h
        simp only [impl_PowQ.l0]
        rw [if_pos (by omega), odd_e, if_pos (by omega), sq_mod hb hb, sq_mod ho hb, half_e e he]
      · have h := ih (e / 2) (b * b % 3329) out (by omega) (by omega) (mod_in _) ho
        have e1 : out * (b * b % 3329) ^ (e / 2) % 3329 = out * b ^ e % 3329 := by
          refine EqQ.eqm ?_
          refine (EqQ.mul (EqQ.refl _) (EqQ.pow (EqQ.mod _) _)).trans (EqQ.of ?_)
          rw [pow_half b e, show e % 2 = 0 by omega, Int.pow_zero, Int.mul_one]
        rw [e1] at h
        refine Ev.step (fun k => ?_) h
        simp only [impl_PowQ.l0]
        rw [if_pos (by omega), odd_e, if_neg (by omega), sq_mod hb hb, half_e e he]

theorem spec_PowQ_l0 (d : Nat) : ∀ (e : Nat) (b out : Int), e ≤ d → e ≤ 1000000000 → 0 ≤ b ∧ b ≤ 3328 → 0 ≤ out ∧ out ≤ 3328 → Ev (fun k => spec_PowQ.l0 k b (e : Int) out) (out * b ^ e % 3329) := by
  induction d with
  | zero =>
    intro e b out hd _ hb ho
    obtain rfl : e = 0 := by omega
    refine Ev.step (f := fun _ => some (out * b ^ 0 % 3329)) (fun k => ?_) (Ev.now _)
    simp only [spec_PowQ.l0]
    rw [if_neg (by omega), Int.pow_zero, Int.mul_one, Int.emod_eq_of_lt ho.1 (by omega)]
  | succ d ih =>
    intro e b out hd he hb ho
    by_cases h0 : e = 0
    · subst h0
      refine Ev.step (f := fun _ => some (out * b ^ 0 % 3329)) (fun k => ?_) (Ev.now _)
      simp only [spec_PowQ.l0]
      rw [if_neg (by omega), Int.pow_zero, Int.mul_one, Int.emod_eq_of_lt ho.1 (by omega)]
    · by_cases h1 : e % 2 = 1
      · have h := ih (e / 2) (b * b % 3329) (out * b % 3329) (by omega) (by omega) (mod_in _) (mod_in _)
        have e1 : out * b % 3329 * (b * b % 3329) ^ (e / 2) % 3329 = out * b ^ e % 3329 := by
          refine EqQ.eqm ?_
          refine (EqQ.mul (EqQ.mod _) (EqQ.pow (EqQ.mod _) _)).trans (EqQ.of ?_)
          rw [pow_half b e, h1, Int.pow_one, Int.mul_assoc, Int.mul_comm b]
        rw [e1] at h
        refine Ev.step (fun k => ?_) h
        simp only [spec_PowQ.l0]
        rw [if_pos (by omega), odd_e, if_pos (by omega), sq_mod hb hb, sq_mod ho hb, half_e e he]
      · have h := ih (e / 2) (b * b % 3329) out (by omega) (by omega) (mod_in _) ho
        have e1 : out * (b * b % 3329) ^ (e / 2) % 3329 = out * b ^ e % 3329 := by
          refine EqQ.eqm ?_
          refine (EqQ.mul (EqQ.refl _) (EqQ.pow (EqQ.mod _) _)).trans (EqQ.of ?_)
          rw [pow_half b e, show e % 2 = 0 by omega, Int.pow_zero, Int.mul_one]
        rw [e1] at h
        refine Ev.step (fun k => ?_) h
        simp only [spec_PowQ.l0]
        rw [if_pos (by omega), odd_e, if_neg (by omega), sq_mod hb hb, half_e e he]

theorem impl_PowQ_ev (b : Int) (hb : 0 ≤ b ∧ b ≤ 3328) (e : Nat) (he : e ≤ 1000000000) : Ev (fun k => impl_PowQ.f k b (e : Int)) (pw b e) := by
  unfold impl_PowQ.f
  simp only [in_eq, Option.bind_some]
  refine Ev.pos (decide_eq_true ⟨by omega, by omega⟩) (Ev.then (modQ_eq b (by omega) (by omega)) ?_)
  have h := impl_PowQ_l0 e e b 1 (Nat.le_refl _) he hb (by omega)
  rw [Int.one_mul] at h
  rw [Int.emod_eq_of_lt hb.1 (by omega)]
  exact h
theorem spec_PowQ_ev (b : Int) (hb : 0 ≤ b ∧ b ≤ 3328) (e : Nat) (he : e ≤ 1000000000) : Ev (fun k => spec_PowQ.f k b (e : Int)) (pw b e) := by
  unfold spec_PowQ.f
  simp only [l01In_eq, Option.bind_some]
  have hm : Int.tmod b 3329 = b := by rw [Int.tmod_eq_emod_of_nonneg hb.1, Int.emod_eq_of_lt hb.1 (by omega)]
  rw [hm]
  refine Ev.pos (decide_eq_true ⟨by omega, by omega⟩) (Ev.neg (by omega) ?_)
  have h := spec_PowQ_l0 e e b 1 (Nat.le_refl _) he hb (by omega)
  rw [Int.one_mul] at h
  refine Ev.step (fun k => ?_) h
  simp only [spec_PowQ.j0]

/-- The first i of seven bits, turned around. -/
def t7s (n : Nat) : Nat → Nat
  | 0 => 0
  | i + 1 => 2 * t7s n i + n / 2 ^ i % 2
theorem t7s_lt (n i : Nat) : t7s n i < 2 ^ i := by
  induction i with
  | zero => simp [t7s]
  | succ i ih => simp only [t7s, Nat.pow_succ]; omega
theorem t7_lt (n : Nat) : t7s n 7 < 128 := t7s_lt n 7
theorem t7s_le (n i : Nat) (h : i ≤ 7) : t7s n i ≤ 128 := by
  have h1 := t7s_lt n i
  have h2 : 2 ^ i ≤ 2 ^ 7 := Nat.pow_le_pow_right (by omega) h
  omega
theorem turn_step (n i : Nat) (h : i ≤ 7) : wrap64 ((wrap64 (2 * ((t7s n i : Nat) : Int))) + ((n / 2 ^ i % 2 : Nat) : Int)) = ((t7s n (i + 1) : Nat) : Int) := by
  have h1 := t7s_le n i h
  have h2 : n / 2 ^ i % 2 ≤ 1 := by omega
  obtain ⟨u, hu⟩ : ∃ u, n / 2 ^ i % 2 = u := ⟨_, rfl⟩
  obtain ⟨v, hv⟩ : ∃ v, t7s n i = v := ⟨_, rfl⟩
  simp only [t7s]
  rw [hu] at h2 ⊢
  rw [hv] at h1 ⊢
  rw [w64 (x := 2 * (v : Int)) (by omega) (by omega), w64 (by omega) (by omega)]
  omega
theorem impl_Turn7_ev (n : Nat) (hn : n < 128) : Ev (fun k => impl_Turn7.f k (n : Int)) ((t7s n 7 : Nat) : Int) := by
  unfold impl_Turn7.f
  refine Ev.up (g := fun i k => impl_Turn7.l0 k (n : Int) ((t7s n i : Nat) : Int) (i : Int)) 7 ?_ ?_ 0 (by omega)
  · intro i hi h
    refine Ev.step (fun k => ?_) h
    have e1 : shr .i64 (n : Int) (i : Int) = ((n / 2 ^ i : Nat) : Int) := shr_nat .i64 n i (by simp [IntKind.bits]; omega)
    have e2 := i64_and1 (n / 2 ^ i) (Nat.lt_of_le_of_lt (Nat.div_le_self _ _) (Nat.lt_trans hn (by decide)))
    have e3 := turn_step n i (Nat.le_of_lt hi)
    have e4 := w64s i (Nat.lt_trans hi (by decide))
    simp only [impl_Turn7.l0]
    rw [if_pos (show (i : Int) < 7 from Int.ofNat_lt.mpr hi), if_pos (Int.natCast_nonneg _), e1, e2, e3, e4]
  · refine Ev.step (f := fun _ => some ((t7s n 7 : Nat) : Int)) (fun k => ?_) (Ev.now _)
    simp only [impl_Turn7.l0]
    rw [if_neg (by omega)]
theorem spec_Turn7_ev (n : Nat) (hn : n < 128) : Ev (fun k => spec_Turn7.f k (n : Int)) ((t7s n 7 : Nat) : Int) := by
  unfold spec_Turn7.f
  have hm : Int.tmod (n : Int) 128 = (n : Int) := by rw [Int.tmod_eq_emod_of_nonneg (by omega), Int.emod_eq_of_lt (by omega) (by omega)]
  rw [hm]
  refine Ev.neg (by omega) ?_
  refine Ev.step (f := fun k => spec_Turn7.l0 k (n : Int) 0 0) (fun k => ?_) ?_
  · simp only [spec_Turn7.j0]
  · have key := Ev.up (g := fun i k => spec_Turn7.l0 k ((n / 2 ^ i : Nat) : Int) ((t7s n i : Nat) : Int) (i : Int)) (r := ((t7s n 7 : Nat) : Int)) 7 ?_ ?_ 0 (by omega)
    · simpa [t7s] using key
    · intro i hi h
      refine Ev.step (fun k => ?_) h
      have e1 : Int.tmod ((n / 2 ^ i : Nat) : Int) 2 = ((n / 2 ^ i % 2 : Nat) : Int) := odd_e _
      have e2 := half_e (n / 2 ^ i) (Nat.le_trans (Nat.div_le_self _ _) (Nat.le_trans (Nat.le_of_lt hn) (by decide)))
      have e3 := turn_step n i (Nat.le_of_lt hi)
      have e4 := w64s i (Nat.lt_trans hi (by decide))
      have e5 : n / 2 ^ i / 2 = n / 2 ^ (i + 1) := by rw [Nat.div_div_eq_div_mul, Nat.pow_succ]
      simp only [spec_Turn7.l0]
      rw [if_pos (show (i : Int) < 7 from Int.ofNat_lt.mpr hi), e1, e2, e3, e4, e5]
    · refine Ev.step (f := fun _ => some ((t7s n 7 : Nat) : Int)) (fun k => ?_) (Ev.now _)
      simp only [spec_Turn7.l0]
      rw [if_neg (by omega)]
/-- The powers of 17 that the transforms take. -/
def zed (n : Nat) : Int := pw 17 (t7s n 7)
theorem zed_in (n : Nat) : 0 ≤ zed n ∧ zed n ≤ 3328 := pw_in _ _

theorem wadd (a b : Nat) (h : a + b ≤ 100000) : wrap64 ((a : Int) + (b : Int)) = ((a + b : Nat) : Int) := by rw [w64 (by omega) (by omega)]; omega
theorem wdbl (a : Nat) (h : a ≤ 100000) : wrap64 (2 * (a : Int)) = ((2 * a : Nat) : Int) := by rw [w64 (by omega) (by omega)]; omega
theorem whalf (a : Nat) (h : a ≤ 100000) : wrap64 (Int.tdiv (a : Int) 2) = ((a / 2 : Nat) : Int) := half_e a (by omega)
theorem wmul_in {x y : Int} (hx : 0 ≤ x ∧ x ≤ 3328) (hy : 0 ≤ y ∧ y ≤ 3328) : wrap64 (x * y) = x * y := by
  have := mul_bd hx hy
  exact w64 (by omega) (by omega)

/-- A butterfly on the numbers from st on, s of them with the s behind; the first j of them done. -/
def bfp (z : Int) (s st j : Nat) (f : Nat → Int) : Nat → Int := fun n =>
  if st ≤ n ∧ n < st + j then (f n + z * f (n + s)) % 3329 else if st + s ≤ n ∧ n < st + s + j then (f (n - s) - z * f n) % 3329 else f n
theorem bfp_0 (z : Int) (s st : Nat) (f : Nat → Int) : bfp z s st 0 f = f := by
  funext n; unfold bfp; rw [if_neg (by omega), if_neg (by omega)]
theorem bfp_in {z : Int} {s st j : Nat} {f : Nat → Int} (hf : ∀ i, 0 ≤ f i ∧ f i ≤ 3328) (n : Nat) : 0 ≤ bfp z s st j f n ∧ bfp z s st j f n ≤ 3328 := by
  unfold bfp
  split
  · exact mod_in _
  · split
    · exact mod_in _
    · exact hf n
theorem bfp_at1 {z : Int} {s st j : Nat} {f : Nat → Int} (h : j < s) : bfp z s st j f (st + j) = f (st + j) := by
  unfold bfp; rw [if_neg (by omega), if_neg (by omega)]
theorem bfp_at2 {z : Int} {s st j : Nat} {f : Nat → Int} : bfp z s st j f (st + j + s) = f (st + j + s) := by
  unfold bfp; rw [if_neg (by omega), if_neg (by omega)]
theorem bfp_step (z : Int) (s st j : Nat) (f : Nat → Int) (hj : j < s) : ((vec (bfp z s st j f)).set (st + j) ((f (st + j) + z * f (st + j + s)) % 3329)).set (st + j + s) ((f (st + j) - z * f (st + j + s)) % 3329) = vec (bfp z s st (j + 1) f) := by
  rw [vec_set, vec_set]
  refine vec_congr fun n _ => ?_
  by_cases h2 : n = st + j + s
  · subst h2
    rw [if_pos rfl]
    unfold bfp
    rw [if_neg (by omega), if_pos (by omega), show st + j + s - s = st + j by omega]
  · rw [if_neg h2]
    by_cases h1 : n = st + j
    · subst h1
      rw [if_pos rfl]
      unfold bfp
      rw [if_pos (by omega)]
    · rw [if_neg h1]
      unfold bfp
      by_cases a : st ≤ n ∧ n < st + j
      · rw [if_pos a, if_pos (by omega)]
      · have a' : ¬ (st ≤ n ∧ n < st + (j + 1)) := by omega
        rw [if_neg a, if_neg a']
        by_cases b : st + s ≤ n ∧ n < st + s + j
        · rw [if_pos b, if_pos (show st + s ≤ n ∧ n < st + s + (j + 1) by omega)]
        · rw [if_neg b, if_neg (show ¬ (st + s ≤ n ∧ n < st + s + (j + 1)) by omega)]
theorem bfp_swap (z : Int) (s st j : Nat) (f : Nat → Int) (hs : 1 ≤ s) (A B : Int) : ((vec (bfp z s st j f)).set (st + j + s) B).set (st + j) A = ((vec (bfp z s st j f)).set (st + j) A).set (st + j + s) B :=
  List.set_comm _ _ (by omega)

/-- A layer: the first t butterflies of m, each of s and s numbers. -/
def lay (s m : Nat) : Nat → (Nat → Int) → Nat → Int
  | 0, f => f
  | t + 1, f => bfp (zed (m + t)) s (2 * s * t) s (lay s m t f)
theorem lay_in {s m : Nat} {f : Nat → Int} (hf : ∀ i, 0 ≤ f i ∧ f i ≤ 3328) (t : Nat) : ∀ n, 0 ≤ lay s m t f n ∧ lay s m t f n ≤ 3328 := by
  induction t with
  | zero => exact hf
  | succ t ih => exact fun n => bfp_in ih n
def nttV (f : Nat → Int) : Nat → Int := lay 2 64 64 (lay 4 32 32 (lay 8 16 16 (lay 16 8 8 (lay 32 4 4 (lay 64 2 2 (lay 128 1 1 f))))))
theorem impl_Ntt_l2 (f : Nat → Int) (hf : ∀ i, 0 ≤ f i ∧ f i ≤ 3328) (z : Int) (hz : 0 ≤ z ∧ z ≤ 3328) (s st : Nat) (K : Int) (hs : 1 ≤ s) (hst : st + 2 * s ≤ 256) {r : List Int}
    (h : Ev (fun k => impl_Ntt.l1 k (vec (bfp z s st s f)) K (s : Int) ((st + 2 * s : Nat) : Int)) r) : Ev (fun k => impl_Ntt.l2 k (vec f) K (s : Int) (st : Int) z (st : Int)) r := by
  have e0 : vec f = vec (bfp z s st 0 f) := by rw [bfp_0]
  have w1 := wadd st s (by omega)
  rw [e0]
  refine Ev.up (g := fun j k => impl_Ntt.l2 k (vec (bfp z s st j f)) K (s : Int) (st : Int) z ((st + j : Nat) : Int)) s ?_ ?_ 0 (by omega)
  · intro j hj h'
    refine Ev.step (fun k => ?_) h'
    have c1 : st + j < st + s := Nat.add_lt_add_left hj _
    have c2 : st + j + s < 256 := Nat.lt_of_lt_of_le (Nat.add_lt_add_right c1 s) (Nat.le_trans (by rw [Nat.two_mul, Nat.add_assoc]; exact Nat.le_refl _) hst)
    have c3 : st + j < 256 := Nat.lt_of_le_of_lt (Nat.le_add_right _ s) c2
    have w2 := wadd (st + j) s (Nat.le_trans (Nat.le_of_lt c2) (by decide))
    have w3 : wrap64 (((st + j : Nat) : Int) + 1) = ((st + (j + 1) : Nat) : Int) := w64s (st + j) (Nat.lt_trans c3 (by decide))
    have hm := mul_bd hz (hf (st + j + s))
    have h1 := hf (st + j)
    simp only [impl_Ntt.l2]
    rw [w1]
    clear e0 w1
    rw [if_pos (Int.ofNat_lt.mpr c1), w2, if_pos (Int.natCast_nonneg _), if_pos (by rw [vec_length]; exact Int.ofNat_lt.mpr c2), if_pos (Int.natCast_nonneg _), if_pos (by rw [vec_length]; exact Int.ofNat_lt.mpr c3), vec_rd _ _ c3, vec_rd _ _ c2, bfp_at1 hj, bfp_at2, wmul_in hz (hf _), w64 (x := f (st + j) + z * f (st + j + s)) (by omega) (by omega), w64 (x := f (st + j) - z * f (st + j + s)) (by omega) (by omega), modQ_eq _ (by omega) (by omega), Option.bind_some, modQ_eq _ (by omega) (by omega), Option.bind_some, Int.toNat_natCast, Int.toNat_natCast, bfp_step z s st j f hj, w3]
  · refine Ev.step (fun k => ?_) h
    have c1 : ¬ ((st + s : Nat) : Int) < ((st + s : Nat) : Int) := Int.lt_irrefl _
    have w4 := wdbl s (by clear w1; omega)
    have w5 := wadd st (2 * s) (by clear w1 w4; omega)
    simp only [impl_Ntt.l2]
    rw [w1, if_neg c1, w4, w5]

theorem impl_Ntt_lay (s m : Nat) (hsm : 2 * s * m = 256) (hs : 1 ≤ s) (hm : 1 ≤ m) (f : Nat → Int) (hf : ∀ i, 0 ≤ f i ∧ f i ≤ 3328) (hs2 : 2 ≤ s) {r : List Int}
    (h : Ev (fun k => impl_Ntt.l0 k (vec (lay s m m f)) ((2 * m : Nat) : Int) ((s / 2 : Nat) : Int)) r) : Ev (fun k => impl_Ntt.l0 k (vec f) (m : Int) (s : Int)) r := by
  have hs128 : s ≤ 128 := by
    have : 2 * s * 1 ≤ 2 * s * m := Nat.mul_le_mul_left _ hm
    omega
  have hm128 : m ≤ 128 := by
    have : 2 * m ≤ 2 * s * m := Nat.mul_le_mul_right _ (by omega)
    omega
  refine Ev.step (f := fun k => impl_Ntt.l1 k (vec f) (m : Int) (s : Int) 0) (fun k => ?_) ?_
  · simp only [impl_Ntt.l0]
    rw [if_pos (by omega)]
  · refine Ev.up (g := fun t k => impl_Ntt.l1 k (vec (lay s m t f)) ((m + t : Nat) : Int) (s : Int) ((2 * s * t : Nat) : Int)) m ?_ ?_ 0 (by omega)
    · intro t ht h'
      have c0 : 2 * s * t + 2 * s ≤ 256 := by rw [← Nat.mul_succ, ← hsm]; exact Nat.mul_le_mul_left _ ht
      have ek : m + t < 128 := by
        have : 4 * m ≤ 2 * s * m := Nat.mul_le_mul_right _ (by omega)
        omega
      have w1 := w64s (m + t) (Nat.lt_trans ek (by decide))
      have h2 := impl_Ntt_l2 (lay s m t f) (lay_in hf t) (zed (m + t)) (zed_in _) s (2 * s * t) ((m + t + 1 : Nat) : Int) hs c0 h'
      have cond : ((2 * s * t : Nat) : Int) < 256 := by clear w1; omega
      refine Ev.step (f := fun k => (impl_Turn7.f k ((m + t : Nat) : Int)).bind fun t287 => ((impl_PowQ.f k 17 t287).bind fun t288 => (impl_Ntt.l2 k (vec (lay s m t f)) (wrap64 (((m + t : Nat) : Int) + 1)) (s : Int) ((2 * s * t : Nat) : Int) t288 ((2 * s * t : Nat) : Int)))) (fun k => ?_) ?_
      · simp only [impl_Ntt.l1]
        rw [if_pos cond]
      · rw [w1]
        exact Ev.bind (impl_Turn7_ev (m + t) ek) (Ev.bind (impl_PowQ_ev 17 (by decide) _ (Nat.le_trans (Nat.le_of_lt (t7_lt _)) (by decide))) h2)
    · refine Ev.step (fun k => ?_) h
      have w1 := whalf s (by omega)
      have c1 : ¬ ((2 * s * m : Nat) : Int) < 256 := by clear w1; omega
      simp only [impl_Ntt.l1]
      rw [if_neg c1, w1, show m + m = 2 * m by rw [Nat.two_mul]]
theorem impl_Ntt_ev (f : Nat → Int) (hf : ∀ i, 0 ≤ f i ∧ f i ≤ 3328) : Ev (fun k => impl_Ntt.f k (vec f)) (vec (nttV f)) := by
  have core : Ev (fun k => impl_Ntt.l0 k (vec f) 1 128) (vec (nttV f)) := by
    have i1 := lay_in (s := 128) (m := 1) hf 1
    have i2 := lay_in (s := 64) (m := 2) i1 2
    have i3 := lay_in (s := 32) (m := 4) i2 4
    have i4 := lay_in (s := 16) (m := 8) i3 8
    have i5 := lay_in (s := 8) (m := 16) i4 16
    have i6 := lay_in (s := 4) (m := 32) i5 32
    refine impl_Ntt_lay 128 1 (by decide) (by decide) (by decide) f hf (by decide) ?_
    refine impl_Ntt_lay 64 2 (by decide) (by decide) (by decide) _ i1 (by decide) ?_
    refine impl_Ntt_lay 32 4 (by decide) (by decide) (by decide) _ i2 (by decide) ?_
    refine impl_Ntt_lay 16 8 (by decide) (by decide) (by decide) _ i3 (by decide) ?_
    refine impl_Ntt_lay 8 16 (by decide) (by decide) (by decide) _ i4 (by decide) ?_
    refine impl_Ntt_lay 4 32 (by decide) (by decide) (by decide) _ i5 (by decide) ?_
    refine impl_Ntt_lay 2 64 (by decide) (by decide) (by decide) _ i6 (by decide) ?_
    refine Ev.step (f := fun _ => some (vec (nttV f))) (fun k => ?_) (Ev.now _)
    simp only [impl_Ntt.l0]
    rw [if_neg (by decide)]
    rfl
  unfold impl_Ntt.f
  have ok := vec_ok (f := f) fun i _ => hf i
  have ln := vec_length f
  refine Ev.bind (ok ▸ impl_PolyOk_ev (vec f) (by omega)) (Ev.pos rfl ?_)
  refine Ev.then (a := vec f) ?_ core
  unfold impl_copyInts.f
  rw [if_pos (by rw [ln]; decide), List.nil_append]

theorem spec_Ntt_l2 (f : Nat → Int) (hf : ∀ i, 0 ≤ f i ∧ f i ≤ 3328) (z : Int) (hz : 0 ≤ z ∧ z ≤ 3328) (s st : Nat) (K : Int) (hs : 1 ≤ s) (hst : st + 2 * s ≤ 256) {r : List Int}
    (h : Ev (fun k => spec_Ntt.l1 k (vec (bfp z s st s f)) K (s : Int) ((st + 2 * s : Nat) : Int)) r) : Ev (fun k => spec_Ntt.l2 k (vec f) K (s : Int) (st : Int) z (st : Int)) r := by
  have e0 : vec f = vec (bfp z s st 0 f) := by rw [bfp_0]
  have w1 := wadd st s (by omega)
  rw [e0]
  refine Ev.up (g := fun j k => spec_Ntt.l2 k (vec (bfp z s st j f)) K (s : Int) (st : Int) z ((st + j : Nat) : Int)) s ?_ ?_ 0 (by omega)
  · intro j hj h'
    refine Ev.step (fun k => ?_) h'
    have c1 : st + j < st + s := Nat.add_lt_add_left hj _
    have c2 : st + j + s < 256 := Nat.lt_of_lt_of_le (Nat.add_lt_add_right c1 s) (Nat.le_trans (by rw [Nat.two_mul, Nat.add_assoc]; exact Nat.le_refl _) hst)
    have c3 : st + j < 256 := Nat.lt_of_le_of_lt (Nat.le_add_right _ s) c2
    have w2 := wadd (st + j) s (Nat.le_trans (Nat.le_of_lt c2) (by decide))
    have w3 : wrap64 (((st + j : Nat) : Int) + 1) = ((st + (j + 1) : Nat) : Int) := w64s (st + j) (Nat.lt_trans c3 (by decide))
    have hm := mul_bd hz (hf (st + j + s))
    have h1 := hf (st + j)
    simp only [spec_Ntt.l2, Option.bind_some]
    rw [w1]
    clear e0 w1
    rw [if_pos (Int.ofNat_lt.mpr c1), w2, if_pos (Int.natCast_nonneg _), if_pos (by rw [vec_length]; exact Int.ofNat_lt.mpr c2), if_pos (Int.natCast_nonneg _), if_pos (by rw [vec_length]; exact Int.ofNat_lt.mpr c3), vec_rd _ _ c3, vec_rd _ _ c2, bfp_at1 hj, bfp_at2, sq_mod hz (hf _), Int.toNat_natCast, Int.toNat_natCast, vec_set, vec_rd _ _ c3, if_neg (show ¬ st + j = st + j + s by omega), bfp_at1 hj, ← vec_set]
    rw [show Int.tmod (wrap64 ((wrap64 (f (st + j) - z * f (st + j + s) % 3329)) + 3329)) 3329 = (f (st + j) - z * f (st + j + s)) % 3329 by
      rw [w64 (x := f (st + j) - z * f (st + j + s) % 3329) (by omega) (by omega), w64 (by omega) (by omega), Int.tmod_eq_emod_of_nonneg (by omega)]; omega]
    rw [show Int.tmod (wrap64 (f (st + j) + z * f (st + j + s) % 3329)) 3329 = (f (st + j) + z * f (st + j + s)) % 3329 by
      rw [w64 (by omega) (by omega), Int.tmod_eq_emod_of_nonneg (by omega)]; omega]
    rw [bfp_swap z s st j f hs, bfp_step z s st j f hj, w3]
  · refine Ev.step (fun k => ?_) h
    have c1 : ¬ ((st + s : Nat) : Int) < ((st + s : Nat) : Int) := Int.lt_irrefl _
    have w4 := wdbl s (by clear w1; omega)
    have w5 := wadd st (2 * s) (by clear w1 w4; omega)
    simp only [spec_Ntt.l2]
    rw [w1, if_neg c1, w4, w5]

theorem spec_Ntt_lay (s m : Nat) (hsm : 2 * s * m = 256) (hs : 1 ≤ s) (hm : 1 ≤ m) (f : Nat → Int) (hf : ∀ i, 0 ≤ f i ∧ f i ≤ 3328) (hs2 : 2 ≤ s) {r : List Int}
    (h : Ev (fun k => spec_Ntt.l0 k (vec (lay s m m f)) ((2 * m : Nat) : Int) ((s / 2 : Nat) : Int)) r) : Ev (fun k => spec_Ntt.l0 k (vec f) (m : Int) (s : Int)) r := by
  have hs128 : s ≤ 128 := by
    have : 2 * s * 1 ≤ 2 * s * m := Nat.mul_le_mul_left _ hm
    omega
  have hm128 : m ≤ 128 := by
    have : 2 * m ≤ 2 * s * m := Nat.mul_le_mul_right _ (by omega)
    omega
  refine Ev.step (f := fun k => spec_Ntt.l1 k (vec f) (m : Int) (s : Int) 0) (fun k => ?_) ?_
  · simp only [spec_Ntt.l0]
    rw [if_pos (by omega)]
  · refine Ev.up (g := fun t k => spec_Ntt.l1 k (vec (lay s m t f)) ((m + t : Nat) : Int) (s : Int) ((2 * s * t : Nat) : Int)) m ?_ ?_ 0 (by omega)
    · intro t ht h'
      have c0 : 2 * s * t + 2 * s ≤ 256 := by rw [← Nat.mul_succ, ← hsm]; exact Nat.mul_le_mul_left _ ht
      have ek : m + t < 128 := by
        have : 4 * m ≤ 2 * s * m := Nat.mul_le_mul_right _ (by omega)
        omega
      have w1 := w64s (m + t) (Nat.lt_trans ek (by decide))
      have h2 := spec_Ntt_l2 (lay s m t f) (lay_in hf t) (zed (m + t)) (zed_in _) s (2 * s * t) ((m + t + 1 : Nat) : Int) hs c0 h'
      have cond : ((2 * s * t : Nat) : Int) < 256 := by clear w1; omega
      refine Ev.step (f := fun k => (spec_Turn7.f k ((m + t : Nat) : Int)).bind fun t287 => ((spec_PowQ.f k 17 t287).bind fun t288 => (spec_Ntt.l2 k (vec (lay s m t f)) (wrap64 (((m + t : Nat) : Int) + 1)) (s : Int) ((2 * s * t : Nat) : Int) t288 ((2 * s * t : Nat) : Int)))) (fun k => ?_) ?_
      · simp only [spec_Ntt.l1]
        rw [if_pos cond]
      · rw [w1]
        exact Ev.bind (spec_Turn7_ev (m + t) ek) (Ev.bind (spec_PowQ_ev 17 (by decide) _ (Nat.le_trans (Nat.le_of_lt (t7_lt _)) (by decide))) h2)
    · refine Ev.step (fun k => ?_) h
      have w1 := whalf s (by omega)
      have c1 : ¬ ((2 * s * m : Nat) : Int) < 256 := by clear w1; omega
      simp only [spec_Ntt.l1]
      rw [if_neg c1, w1, show m + m = 2 * m by rw [Nat.two_mul]]
theorem spec_Ntt_ev (f : Nat → Int) (hf : ∀ i, 0 ≤ f i ∧ f i ≤ 3328) : Ev (fun k => spec_Ntt.f k (vec f)) (vec (nttV f)) := by
  have core : Ev (fun k => spec_Ntt.l0 k (vec f) 1 128) (vec (nttV f)) := by
    have i1 := lay_in (s := 128) (m := 1) hf 1
    have i2 := lay_in (s := 64) (m := 2) i1 2
    have i3 := lay_in (s := 32) (m := 4) i2 4
    have i4 := lay_in (s := 16) (m := 8) i3 8
    have i5 := lay_in (s := 8) (m := 16) i4 16
    have i6 := lay_in (s := 4) (m := 32) i5 32
    refine spec_Ntt_lay 128 1 (by decide) (by decide) (by decide) f hf (by decide) ?_
    refine spec_Ntt_lay 64 2 (by decide) (by decide) (by decide) _ i1 (by decide) ?_
    refine spec_Ntt_lay 32 4 (by decide) (by decide) (by decide) _ i2 (by decide) ?_
    refine spec_Ntt_lay 16 8 (by decide) (by decide) (by decide) _ i3 (by decide) ?_
    refine spec_Ntt_lay 8 16 (by decide) (by decide) (by decide) _ i4 (by decide) ?_
    refine spec_Ntt_lay 4 32 (by decide) (by decide) (by decide) _ i5 (by decide) ?_
    refine spec_Ntt_lay 2 64 (by decide) (by decide) (by decide) _ i6 (by decide) ?_
    refine Ev.step (f := fun _ => some (vec (nttV f))) (fun k => ?_) (Ev.now _)
    simp only [spec_Ntt.l0]
    rw [if_neg (by decide)]
    rfl
  unfold spec_Ntt.f
  have ok := vec_ok (f := f) fun i _ => hf i
  have ln := vec_length f
  refine Ev.bind (ok ▸ spec_PolyOk_ev (vec f)) (Ev.pos rfl ?_)
  simp only [Option.bind_some]
  refine Ev.pos (by rw [ln]; decide) ?_
  rw [List.nil_append]
  exact core

def gam (i : Nat) : Int := pw 17 (2 * t7s i 7 + 1)
theorem gam_in (i : Nat) : 0 ≤ gam i ∧ gam i ≤ 3328 := pw_in _ _
def mnE (a b : Nat → Int) (i : Nat) : Int := (a (2 * i) * b (2 * i) + a (2 * i + 1) * b (2 * i + 1) % 3329 * gam i) % 3329
def mnO (a b : Nat → Int) (i : Nat) : Int := (a (2 * i) * b (2 * i + 1) + a (2 * i + 1) * b (2 * i)) % 3329
def mulNttV (a b : Nat → Int) (n : Nat) : Int := if n % 2 = 0 then mnE a b (n / 2) else mnO a b (n / 2)
theorem mulNttV_e (a b : Nat → Int) (i : Nat) : mulNttV a b (2 * i) = mnE a b i := by
  unfold mulNttV; rw [if_pos (by omega), show 2 * i / 2 = i by omega]
theorem mulNttV_o (a b : Nat → Int) (i : Nat) : mulNttV a b (2 * i + 1) = mnO a b i := by
  unfold mulNttV; rw [if_neg (by omega), show (2 * i + 1) / 2 = i by omega]
theorem turn2 (i : Nat) : wrap64 ((wrap64 (2 * ((t7s i 7 : Nat) : Int))) + 1) = ((2 * t7s i 7 + 1 : Nat) : Int) := by
  have h := t7_lt i
  have h1 : t7s i 7 ≤ 100000 := by omega
  have h2 : 2 * t7s i 7 < 9223372036854775807 := by omega
  rw [wdbl _ h1, w64s _ h2]
theorem pow17_ok (i : Nat) : 2 * t7s i 7 + 1 ≤ 1000000000 := by have := t7_lt i; omega
theorem mnE_w (a b : Nat → Int) (ha : ∀ i, 0 ≤ a i ∧ a i ≤ 3328) (hb : ∀ i, 0 ≤ b i ∧ b i ≤ 3328) (i : Nat) :
    wrap64 ((wrap64 (a (2 * i) * b (2 * i))) + (wrap64 ((Int.tmod (wrap64 (a (2 * i + 1) * b (2 * i + 1))) 3329) * gam i))) = a (2 * i) * b (2 * i) + a (2 * i + 1) * b (2 * i + 1) % 3329 * gam i := by
  have h1 := mul_bd (ha (2 * i)) (hb (2 * i))
  have h2 := mul_bd (mod_in (a (2 * i + 1) * b (2 * i + 1))) (gam_in i)
  rw [sq_mod (ha _) (hb _), wmul_in (ha _) (hb _), wmul_in (mod_in _) (gam_in i)]
  exact w64 (by omega) (by omega)
theorem mnE_bd (a b : Nat → Int) (ha : ∀ i, 0 ≤ a i ∧ a i ≤ 3328) (hb : ∀ i, 0 ≤ b i ∧ b i ≤ 3328) (i : Nat) : 0 ≤ a (2 * i) * b (2 * i) + a (2 * i + 1) * b (2 * i + 1) % 3329 * gam i ∧ a (2 * i) * b (2 * i) + a (2 * i + 1) * b (2 * i + 1) % 3329 * gam i ≤ 9223372036854775807 := by
  have h1 := mul_bd (ha (2 * i)) (hb (2 * i))
  have h2 := mul_bd (mod_in (a (2 * i + 1) * b (2 * i + 1))) (gam_in i)
  omega
theorem mnO_w (a b : Nat → Int) (ha : ∀ i, 0 ≤ a i ∧ a i ≤ 3328) (hb : ∀ i, 0 ≤ b i ∧ b i ≤ 3328) (i : Nat) :
    wrap64 ((wrap64 (a (2 * i) * b (2 * i + 1))) + (wrap64 (a (2 * i + 1) * b (2 * i)))) = a (2 * i) * b (2 * i + 1) + a (2 * i + 1) * b (2 * i) := by
  have h1 := mul_bd (ha (2 * i)) (hb (2 * i + 1))
  have h2 := mul_bd (ha (2 * i + 1)) (hb (2 * i))
  rw [wmul_in (ha _) (hb _), wmul_in (ha _) (hb _)]
  exact w64 (by omega) (by omega)
theorem mnO_bd (a b : Nat → Int) (ha : ∀ i, 0 ≤ a i ∧ a i ≤ 3328) (hb : ∀ i, 0 ≤ b i ∧ b i ≤ 3328) (i : Nat) : 0 ≤ a (2 * i) * b (2 * i + 1) + a (2 * i + 1) * b (2 * i) ∧ a (2 * i) * b (2 * i + 1) + a (2 * i + 1) * b (2 * i) ≤ 9223372036854775807 := by
  have h1 := mul_bd (ha (2 * i)) (hb (2 * i + 1))
  have h2 := mul_bd (ha (2 * i + 1)) (hb (2 * i))
  omega

theorem impl_MulNtt_ev (a b : Nat → Int) (ha : ∀ i, 0 ≤ a i ∧ a i ≤ 3328) (hb : ∀ i, 0 ≤ b i ∧ b i ≤ 3328) : Ev (fun k => impl_MulNtt.f k (vec a) (vec b)) (vec (mulNttV a b)) := by
  have core : Ev (fun k => impl_MulNtt.l0 k (vec a) (vec b) (List.replicate 256 0) 0) (vec (mulNttV a b)) := by
    rw [vec_replicate]
    have key := Ev.up (g := fun i k => impl_MulNtt.l0 k (vec a) (vec b) (vec fun n => if n < 2 * i then mulNttV a b n else 0) (i : Int)) (r := vec (mulNttV a b)) 128 ?_ ?_ 0 (by omega)
    · have e : (vec fun _ => (0 : Int)) = vec fun n => if n < 2 * 0 then mulNttV a b n else 0 := vec_congr fun n _ => by rw [if_neg (by omega)]
      rw [e]; exact key
    · intro i hi h
      obtain ⟨K1, h1⟩ := impl_Turn7_ev i hi 
      obtain ⟨K2, h2⟩ := impl_PowQ_ev 17 (by decide) (2 * t7s i 7 + 1) (pow17_ok i)
      obtain ⟨K3, h3⟩ := h
      refine ⟨K1 + K2 + K3 + 1, fun k hk => ?_⟩
      obtain ⟨m, rfl⟩ : ∃ m, k = m + 1 := ⟨k - 1, by omega⟩
      have e1 : impl_Turn7.f m (i : Int) = some ((t7s i 7 : Nat) : Int) := h1 m (by omega)
      have e2 : impl_PowQ.f m 17 ((2 * t7s i 7 + 1 : Nat) : Int) = some (pw 17 (2 * t7s i 7 + 1)) := h2 m (by omega)
      have e3 := h3 m (by omega)
      have c0 : 2 * i < 256 := by omega
      have c1 : 2 * i + 1 < 256 := by omega
      have b0 : i ≤ 100000 := by omega
      have b1 : 2 * i < 9223372036854775807 := by omega
      have b2 : i < 9223372036854775807 := by omega
      have be := mnE_bd a b ha hb i
      have bo := mnO_bd a b ha hb i
      have bem : -9223372036854775808 ≤ a (2 * i) * b (2 * i) + a (2 * i + 1) * b (2 * i + 1) % 3329 * gam i := Int.le_trans (by decide) be.1
      have bom : -9223372036854775808 ≤ a (2 * i) * b (2 * i + 1) + a (2 * i + 1) * b (2 * i) := Int.le_trans (by decide) bo.1
      have ee : (vec fun n => if n = 2 * i + 1 then mnO a b i else if n = 2 * i then mnE a b i else if n < 2 * i then mulNttV a b n else 0) = vec fun n => if n < 2 * (i + 1) then mulNttV a b n else 0 := by
        refine vec_congr fun n _ => ?_
        by_cases h1 : n = 2 * i + 1
        · subst h1; rw [if_pos rfl, if_pos (by omega), mulNttV_o]
        · rw [if_neg h1]
          by_cases h2 : n = 2 * i
          · subst h2; rw [if_pos rfl, if_pos (by omega), mulNttV_e]
          · rw [if_neg h2]
            by_cases h3 : n < 2 * i
            · rw [if_pos h3, if_pos (by omega)]
            · rw [if_neg h3, if_neg (by omega)]
      clear h1 h2 h3 hk be
      simp only [impl_MulNtt.l0]
      rw [if_pos (show (i : Int) < 128 from Int.ofNat_lt.mpr hi), e1, Option.bind_some, turn2, e2, Option.bind_some, wdbl i b0, w64s (2 * i) b1, if_pos (Int.natCast_nonneg _), vec_length, vec_length, vec_length, if_pos (Int.ofNat_lt.mpr c0), if_pos (Int.natCast_nonneg _), if_pos (Int.ofNat_lt.mpr c1), if_pos (Int.ofNat_lt.mpr c0), if_pos (Int.ofNat_lt.mpr c1),
        vec_rd _ _ c0, vec_rd _ _ c0, vec_rd _ _ c1, vec_rd _ _ c1]
      rw [show pw 17 (2 * t7s i 7 + 1) = gam i from rfl, mnE_w a b ha hb i, mnO_w a b ha hb i, modQ_eq _ bem (mnE_bd a b ha hb i).2, Option.bind_some, if_pos (Int.ofNat_lt.mpr c0), modQ_eq _ bom bo.2, Option.bind_some, if_pos (Int.ofNat_lt.mpr c1), Int.toNat_natCast, Int.toNat_natCast, vec_set, vec_set, w64s i b2]
      rw [show (a (2 * i) * b (2 * i) + a (2 * i + 1) * b (2 * i + 1) % 3329 * gam i) % 3329 = mnE a b i from rfl, show (a (2 * i) * b (2 * i + 1) + a (2 * i + 1) * b (2 * i)) % 3329 = mnO a b i from rfl, ee]
      exact e3
    · refine Ev.step (f := fun _ => some (vec fun n => if n < 2 * 128 then mulNttV a b n else 0)) (fun k => ?_) ?_
      · simp only [impl_MulNtt.l0]
        rw [if_neg (by decide)]
      · rw [vec_congr (g := mulNttV a b) fun n hn => if_pos hn]; exact Ev.now _
  unfold impl_MulNtt.f
  have oka := vec_ok (f := a) fun i _ => ha i
  have okb := vec_ok (f := b) fun i _ => hb i
  have la := vec_length a
  have lb := vec_length b
  refine Ev.bind (oka ▸ impl_PolyOk_ev (vec a) (by omega)) (Ev.pos rfl (Ev.bind (okb ▸ impl_PolyOk_ev (vec b) (by omega)) ?_))
  refine Ev.step (fun k => ?_) core
  simp only [impl_MulNtt.j0]
  rw [if_neg (by decide), if_pos (by decide)]

theorem spec_MulNtt_ev (a b : Nat → Int) (ha : ∀ i, 0 ≤ a i ∧ a i ≤ 3328) (hb : ∀ i, 0 ≤ b i ∧ b i ≤ 3328) : Ev (fun k => spec_MulNtt.f k (vec a) (vec b)) (vec (mulNttV a b)) := by
  have core : Ev (fun k => spec_MulNtt.l0 k (vec a) (vec b) [] 0) (vec (mulNttV a b)) := by
    refine Ev.up (g := fun i k => spec_MulNtt.l0 k (vec a) (vec b) ((vec (mulNttV a b)).take (2 * i)) (i : Int)) (r := vec (mulNttV a b)) 128 ?_ ?_ 0 (by omega)
    · intro i hi h
      obtain ⟨K1, h1⟩ := spec_Turn7_ev i hi 
      obtain ⟨K2, h2⟩ := spec_PowQ_ev 17 (by decide) (2 * t7s i 7 + 1) (pow17_ok i)
      obtain ⟨K3, h3⟩ := h
      refine ⟨K1 + K2 + K3 + 1, fun k hk => ?_⟩
      obtain ⟨m, rfl⟩ : ∃ m, k = m + 1 := ⟨k - 1, by omega⟩
      have e1 : spec_Turn7.f m (i : Int) = some ((t7s i 7 : Nat) : Int) := h1 m (by omega)
      have e2 : spec_PowQ.f m 17 ((2 * t7s i 7 + 1 : Nat) : Int) = some (pw 17 (2 * t7s i 7 + 1)) := h2 m (by omega)
      have e3 := h3 m (by omega)
      have c0 : 2 * i < 256 := by omega
      have c1 : 2 * i + 1 < 256 := by omega
      have b0 : i ≤ 100000 := by omega
      have b1 : 2 * i < 9223372036854775807 := by omega
      have b2 : i < 9223372036854775807 := by omega
      have be := mnE_bd a b ha hb i
      have bo := mnO_bd a b ha hb i
      have ln : (List.take (2 * i) (vec (mulNttV a b))).length + [mnE a b i, mnO a b i].length < 17592186044416 := by show _ + 2 < _; rw [List.length_take, vec_length]; omega
      have ee : List.take (2 * i) (vec (mulNttV a b)) ++ [mnE a b i, mnO a b i] = List.take (2 * (i + 1)) (vec (mulNttV a b)) := by
        have t1 := take_snoc (vec (mulNttV a b)) (2 * i) (by rw [vec_length]; exact c0)
        have t2 := take_snoc (vec (mulNttV a b)) (2 * i + 1) (by rw [vec_length]; exact c1)
        rw [vec_get, mulNttV_e] at t1
        rw [vec_get, mulNttV_o] at t2
        rw [show 2 * (i + 1) = 2 * i + 1 + 1 by omega, ← t2, ← t1, List.append_assoc]
        rfl
      clear h1 h2 h3 hk
      simp only [spec_MulNtt.l0]
      rw [if_pos (show (i : Int) < 128 from Int.ofNat_lt.mpr hi), e1, Option.bind_some, turn2, e2, Option.bind_some, wdbl i b0, w64s (2 * i) b1, if_pos (Int.natCast_nonneg _), vec_length, vec_length, if_pos (Int.ofNat_lt.mpr c1), if_pos (Int.ofNat_lt.mpr c1), if_pos (Int.natCast_nonneg _), if_pos (Int.ofNat_lt.mpr c0), if_pos (Int.ofNat_lt.mpr c0),
        vec_rd _ _ c0, vec_rd _ _ c0, vec_rd _ _ c1, vec_rd _ _ c1, Option.bind_some]
      rw [show pw 17 (2 * t7s i 7 + 1) = gam i from rfl, mnE_w a b ha hb i, mnO_w a b ha hb i, Int.tmod_eq_emod_of_nonneg be.1, Int.tmod_eq_emod_of_nonneg bo.1, w64s i b2]
      rw [show (a (2 * i) * b (2 * i) + a (2 * i + 1) * b (2 * i + 1) % 3329 * gam i) % 3329 = mnE a b i from rfl, show (a (2 * i) * b (2 * i + 1) + a (2 * i + 1) * b (2 * i)) % 3329 = mnO a b i from rfl]
      rw [if_pos ln, ee]
      exact e3
    · refine Ev.step (f := fun _ => some (List.take (2 * 128) (vec (mulNttV a b)))) (fun k => ?_) ?_
      · simp only [spec_MulNtt.l0]
        rw [if_neg (by decide)]
      · rw [List.take_of_length_le (by rw [vec_length]; decide)]; exact Ev.now _
  unfold spec_MulNtt.f
  have oka := vec_ok (f := a) fun i _ => ha i
  have okb := vec_ok (f := b) fun i _ => hb i
  simp only [Option.bind_some]
  refine Ev.bind (oka ▸ spec_PolyOk_ev (vec a)) (Ev.pos rfl (Ev.bind (okb ▸ spec_PolyOk_ev (vec b)) ?_))
  refine Ev.step (fun k => ?_) core
  simp only [spec_MulNtt.j0]
  rw [if_neg (by decide)]

/-! a layer, place by place -/
end Go.Proofs.YthdjmbbkenbeiaaDoor.Pure
namespace Go.Proofs.YthdjmbbkenbeiaaDoor.Pure
open Go.RowKit Go.Proofs.YthdjmbbkenbeiaaDoorW.PrintWords Go.Proofs.YthdjmbbkenbeiaaDoorW.PrintLast Go.Proofs.YthdjmbbkenbeiaaDoorW.PrintMore Go.Proofs.YthdjmbbkenbeiaaDoor.P

theorem not_ok {l : List Int} (h : ¬ polyOk l = true) : polyOk l = false := by simpa using h
theorem ntt_any (l : List Int) (hl : l.length ≤ 35184372088832) : ∃ R : List Int, R.length ≤ 256 ∧ Ev (fun k => spec_Ntt.f k l) R ∧ Ev (fun k => impl_Ntt.f k l) R := by
  by_cases h : polyOk l = true
  · obtain ⟨f, rfl, hf⟩ := poly_vec' h
    exact ⟨vec (nttV f), by rw [vec_length]; omega, spec_Ntt_ev f hf, impl_Ntt_ev f hf⟩
  · refine ⟨[], by simp, ?_, ?_⟩
    · unfold spec_Ntt.f
      exact Ev.bind (spec_PolyOk_ev l) (Ev.neg h (Ev.now _))
    · unfold impl_Ntt.f
      exact Ev.bind (impl_PolyOk_ev l hl) (Ev.neg h (Ev.now _))
theorem mul_any (l u : List Int) (hl : l.length ≤ 35184372088832) (hu : u.length ≤ 35184372088832) : ∃ R : List Int, R.length ≤ 256 ∧ Ev (fun k => spec_MulNtt.f k l u) R ∧ Ev (fun k => impl_MulNtt.f k l u) R := by
  by_cases h : polyOk l = true
  · by_cases h2 : polyOk u = true
    · obtain ⟨f, rfl, hf⟩ := poly_vec' h
      obtain ⟨g, rfl, hg⟩ := poly_vec' h2
      exact ⟨vec (mulNttV f g), by rw [vec_length]; omega, spec_MulNtt_ev f g hf hg, impl_MulNtt_ev f g hf hg⟩
    · refine ⟨[], by simp, ?_, ?_⟩
      · unfold spec_MulNtt.f
        simp only [Option.bind_some]
        refine Ev.bind (spec_PolyOk_ev l) (Ev.pos h (Ev.bind (spec_PolyOk_ev u) ?_))
        refine Ev.step (f := fun _ => some []) (fun k => ?_) (Ev.now _)
        simp only [spec_MulNtt.j0]
        rw [if_pos (by rw [not_ok h2]; rfl)]
      · unfold impl_MulNtt.f
        refine Ev.bind (impl_PolyOk_ev l hl) (Ev.pos h (Ev.bind (impl_PolyOk_ev u hu) ?_))
        refine Ev.step (f := fun _ => some []) (fun k => ?_) (Ev.now _)
        simp only [impl_MulNtt.j0]
        rw [if_pos (by rw [not_ok h2]; rfl)]
  · refine ⟨[], by simp, ?_, ?_⟩
    · unfold spec_MulNtt.f
      simp only [Option.bind_some]
      refine Ev.bind (spec_PolyOk_ev l) (Ev.neg h ?_)
      refine Ev.step (f := fun _ => some []) (fun k => ?_) (Ev.now _)
      simp only [spec_MulNtt.j0]
      rw [if_pos trivial]
    · unfold impl_MulNtt.f
      refine Ev.bind (impl_PolyOk_ev l hl) (Ev.neg h ?_)
      refine Ev.step (f := fun _ => some []) (fun k => ?_) (Ev.now _)
      simp only [impl_MulNtt.j0]
      rw [if_pos trivial]
theorem spec_PolyAdd_ev (a b : Nat → Int) (ha : ∀ i, 0 ≤ a i ∧ a i ≤ 3328) (hb : ∀ i, 0 ≤ b i ∧ b i ≤ 3328) : Ev (fun k => spec_PolyAdd.f k (vec a) (vec b)) (vec fun i => (a i + b i) % 3329) := by
  have oka : Ev (fun k => spec_PolyOk.f k (vec a)) true := vec_ok (f := a) (fun i _ => ha i) ▸ spec_PolyOk_ev (vec a)
  have okb : Ev (fun k => spec_PolyOk.f k (vec b)) true := vec_ok (f := b) (fun i _ => hb i) ▸ spec_PolyOk_ev (vec b)
  unfold spec_PolyAdd.f
  refine Ev.up (g := fun i k => spec_PolyAdd.l0 k (vec a) (vec b) ((vec fun i => (a i + b i) % 3329).take i) (i : Int)) (r := vec fun i => (a i + b i) % 3329) 256 ?_ ?_ 0 (by omega)
  · intro i hi h
    obtain ⟨K1, h1⟩ := oka
    obtain ⟨K2, h2⟩ := okb
    obtain ⟨K3, h3⟩ := h
    refine ⟨K1 + K2 + K3 + 1, fun k hk => ?_⟩
    obtain ⟨m, rfl⟩ : ∃ m, k = m + 1 := ⟨k - 1, by omega⟩
    have e1 : spec_PolyOk.f m (vec a) = some true := h1 m (by omega)
    have e2 : spec_PolyOk.f m (vec b) = some true := h2 m (by omega)
    have e3 := h3 m (by omega)
    have ln : (List.take i (vec fun i => (a i + b i) % 3329)).length < 17592186044416 := by rw [List.length_take, vec_length]; omega
    have t1 := take_snoc (vec fun i => (a i + b i) % 3329) i (by rw [vec_length]; exact hi)
    rw [vec_get] at t1
    have hs : 0 ≤ a i + b i ∧ a i + b i ≤ 6656 := by have := ha i; have := hb i; omega
    have em : Int.tmod (wrap64 (a i + b i)) 3329 = (a i + b i) % 3329 := by
      rw [w64 (by omega) (by omega), Int.tmod_eq_emod_of_nonneg hs.1]
    simp only [spec_PolyAdd.l0]
    rw [if_pos (show (i : Int) < 256 from Int.ofNat_lt.mpr hi), e1, Option.bind_some, if_pos rfl, e2, Option.bind_some, if_pos rfl, if_pos (Int.natCast_nonneg _), vec_length, vec_length, if_pos (Int.ofNat_lt.mpr hi), if_pos (Int.ofNat_lt.mpr hi), if_pos ln, vec_rd a i hi, vec_rd b i hi, em, t1, w64s i (Nat.lt_trans hi (by decide))]
    exact e3
  · refine Ev.step (f := fun _ => some (List.take 256 (vec fun i => (a i + b i) % 3329))) (fun k => ?_) ?_
    · simp only [spec_PolyAdd.l0]
      rw [if_neg (by decide)]
    · rw [List.take_of_length_le (by rw [vec_length]; decide)]; exact Ev.now _
theorem add_any (l u : List Int) (hl : l.length ≤ 35184372088832) (hu : u.length ≤ 35184372088832) : ∃ R : List Int, R.length ≤ 256 ∧ Ev (fun k => spec_PolyAdd.f k l u) R ∧ Ev (fun k => impl_PolyAdd.f k l u) R := by
  by_cases h : polyOk l = true
  · by_cases h2 : polyOk u = true
    · obtain ⟨f, rfl, hf⟩ := poly_vec' h
      obtain ⟨g, rfl, hg⟩ := poly_vec' h2
      exact ⟨_, by rw [vec_length]; omega, spec_PolyAdd_ev f g hf hg, impl_PolyAdd_ev f g hf hg⟩
    · refine ⟨[], by simp, ?_, ?_⟩
      · unfold spec_PolyAdd.f
        refine Ev.step (f := fun k => (spec_PolyOk.f k l).bind fun t => if t = true then ((spec_PolyOk.f k u).bind fun t2 => if t2 = true then none else some []) else some []) (fun k => ?_) ?_
        · simp only [spec_PolyAdd.l0]
          rw [if_pos (by decide)]
          have : ∀ t2 : Bool, spec_PolyOk.f k u = some t2 → t2 = false := fun t2 e => by
            cases t2 with
            | false => rfl
            | true =>
              exfalso
              obtain ⟨K, hK⟩ := spec_PolyOk_ev u
              have e1 := at_rounds (g := fun k => spec_PolyOk.f k u) (fun k => spec_PolyOk.mono u k) (Nat.le_max_left k K) e
              rw [show spec_PolyOk.f (max k K) u = some (polyOk u) from hK (max k K) (Nat.le_max_right k K), not_ok h2] at e1
              exact absurd e1 (by decide)
          cases spec_PolyOk.f k l with
          | none => rfl
          | some t =>
            simp only [Option.bind_some]
            cases t with
            | false => rfl
            | true =>
              rw [if_pos rfl, if_pos rfl]
              cases e : spec_PolyOk.f k u with
              | none => rfl
              | some t2 =>
                have := this t2 e
                subst this
                simp
        · exact Ev.bind (spec_PolyOk_ev l) (Ev.pos h (Ev.bind (spec_PolyOk_ev u) (Ev.neg h2 (Ev.now _))))
      · unfold impl_PolyAdd.f
        refine Ev.bind (a := []) ?_ (Ev.now _)
        unfold impl_each_PolyAdd_1.f
        refine Ev.bind (impl_PolyOk_ev l hl) (Ev.pos h (Ev.bind (impl_PolyOk_ev u hu) ?_))
        refine Ev.step (f := fun _ => some []) (fun k => ?_) (Ev.now _)
        simp only [impl_each_PolyAdd_1.j0]
        rw [if_pos (by rw [not_ok h2]; rfl)]
  · refine ⟨[], by simp, ?_, ?_⟩
    · unfold spec_PolyAdd.f
      refine Ev.step (f := fun k => (spec_PolyOk.f k l).bind fun t => if t = true then none else some []) (fun k => ?_) ?_
      · simp only [spec_PolyAdd.l0]
        rw [if_pos (by decide)]
        have : ∀ t2 : Bool, spec_PolyOk.f k l = some t2 → t2 = false := fun t2 e => by
          cases t2 with
          | false => rfl
          | true =>
            exfalso
            obtain ⟨K, hK⟩ := spec_PolyOk_ev l
            have e1 := at_rounds (g := fun k => spec_PolyOk.f k l) (fun k => spec_PolyOk.mono l k) (Nat.le_max_left k K) e
            rw [show spec_PolyOk.f (max k K) l = some (polyOk l) from hK (max k K) (Nat.le_max_right k K), not_ok h] at e1
            exact absurd e1 (by decide)
        cases e : spec_PolyOk.f k l with
        | none => rfl
        | some t =>
          have := this t e
          subst this
          simp
      · exact Ev.bind (spec_PolyOk_ev l) (Ev.neg h (Ev.now _))
    · unfold impl_PolyAdd.f
      refine Ev.bind (a := []) ?_ (Ev.now _)
      unfold impl_each_PolyAdd_1.f
      refine Ev.bind (impl_PolyOk_ev l hl) (Ev.neg h ?_)
      refine Ev.step (f := fun _ => some []) (fun k => ?_) (Ev.now _)
      simp only [impl_each_PolyAdd_1.j0]
      rw [if_pos trivial]
/-- Sums of products of two rows of two. -/
theorem sum_any (a0 a1 b0 b1 : List Int) (h0 : a0.length ≤ 35184372088832) (h1 : a1.length ≤ 35184372088832) (h2 : b0.length ≤ 35184372088832) (h3 : b1.length ≤ 35184372088832) :
    ∃ R : List Int, R.length ≤ 256 ∧ Ev (fun k => spec_l13Sum.f k [a0, a1] [b0, b1]) R ∧ Ev (fun k => impl_dot.f k [a0, a1] [b0, b1]) R := by
  obtain ⟨p, hp, sp, ip⟩ := mul_any a0 b0 h0 h2
  obtain ⟨q, hq, sq, iq⟩ := mul_any a1 b1 h1 h3
  obtain ⟨u, hu, su, iu⟩ := add_any (List.replicate 256 0) p (by rw [List.length_replicate]; decide) (by omega)
  obtain ⟨v, hv, sv, iv⟩ := add_any u q (by omega) (by omega)
  have w1 : wrap64 (0 + 1) = 1 := by rw [w64 (by decide) (by decide)]; rfl
  have w2 : wrap64 (1 + 1) = 2 := by rw [w64 (by decide) (by decide)]; rfl
  have la : (([a0, a1] : List (List Int)).length : Int) = 2 := rfl
  have lb : (([b0, b1] : List (List Int)).length : Int) = 2 := rfl
  refine ⟨v, hv, ?_, ?_⟩
  · unfold spec_l13Sum.f
    refine Ev.pos (by decide) ?_
    refine Ev.step (f := fun k => (spec_MulNtt.f k a0 b0).bind fun t => (spec_PolyAdd.f k (List.replicate 256 0) t).bind fun t2 => spec_l13Sum.l0 k [a0, a1] [b0, b1] t2 1) (fun k => ?_) (Ev.bind sp (Ev.bind su ?_))
    · simp only [spec_l13Sum.l0]
      rw [la, lb, if_pos (by decide), if_pos (by decide), if_pos (by decide), w1]
      rfl
    refine Ev.step (f := fun k => (spec_MulNtt.f k a1 b1).bind fun t => (spec_PolyAdd.f k u t).bind fun t2 => spec_l13Sum.l0 k [a0, a1] [b0, b1] t2 2) (fun k => ?_) (Ev.bind sq (Ev.bind sv ?_))
    · simp only [spec_l13Sum.l0]
      rw [la, lb, if_pos (by decide), if_pos (by decide), if_pos (by decide), w2]
      rfl
    refine Ev.step (f := fun _ => some v) (fun k => ?_) (Ev.now _)
    simp only [spec_l13Sum.l0]
    rw [la, if_neg (by decide)]
  · unfold impl_dot.f
    refine Ev.pos (by decide) ?_
    refine Ev.step (f := fun k => (impl_MulNtt.f k a0 b0).bind fun t => (impl_PolyAdd.f k (List.replicate 256 0) t).bind fun t2 => impl_dot.l0 k [a0, a1] [b0, b1] t2 2 1) (fun k => ?_) (Ev.bind ip (Ev.bind iu ?_))
    · simp only [impl_dot.l0]
      rw [la, lb, if_pos (by decide), if_pos (by decide), if_pos (by decide), if_pos (by decide), w1]
      rfl
    refine Ev.step (f := fun k => (impl_MulNtt.f k a1 b1).bind fun t => (impl_PolyAdd.f k u t).bind fun t2 => impl_dot.l0 k [a0, a1] [b0, b1] t2 2 2) (fun k => ?_) (Ev.bind iq (Ev.bind iv ?_))
    · simp only [impl_dot.l0]
      rw [la, lb, if_pos (by decide), if_pos (by decide), if_pos (by decide), if_pos (by decide), w2]
      rfl
    refine Ev.step (f := fun _ => some v) (fun k => ?_) (Ev.now _)
    simp only [impl_dot.l0]
    rw [if_neg (by decide)]

end Go.Proofs.YthdjmbbkenbeiaaDoor.Pure
namespace Go.Proofs.YthdjmbbkenbeiaaDoor.Pure
open Go.RowKit Go.Proofs.YthdjmbbkenbeiaaDoorW.PrintWords Go.Proofs.YthdjmbbkenbeiaaDoorW.PrintLast Go.Proofs.YthdjmbbkenbeiaaDoorW.PrintMore Go.Proofs.YthdjmbbkenbeiaaDoor.P Go.Proofs.YthdjmbbkenbeiaaDoor.Kit
set_option linter.unusedVariables false
set_option linter.unusedSimpArgs false

def W64 (x : Int) : Prop := 0 ≤ x ∧ x < 18446744073709551616
theorem wrapU (x : Int) : IntKind.u64.wrap x = x % 18446744073709551616 := IntKind.wrap_u64 x
theorem W64.mod (x : Int) : W64 (x % 18446744073709551616) := by unfold W64; omega
theorem W64.wrap (x : Int) : W64 (IntKind.u64.wrap x) := by rw [wrapU]; exact W64.mod _
theorem W64.xor (a b : Int) : W64 (Go.bits .xor .u64 a b) := W64.wrap _
theorem W64.or (a b : Int) : W64 (Go.bits .or .u64 a b) := W64.wrap _
theorem wraps64 : ∀ n : Int, 0 ≤ n → n < 2 ^ 64 → IntKind.u64.wrap n = n := fun n h0 h1 => by rw [wrapU]; omega
theorem or64 (i : Nat) (x y : Int) (hx : W64 x) (hi : x % 2 ^ i = 0) (hy : W64 y) (hyi : y < 2 ^ i) : Go.bits .or .u64 x y = x + y :=
  bits_join .u64 64 (by decide) wraps64 i x y hx.1 hi (by have := hx.2; omega) hy.1 hyi (by have := hy.2; omega)
theorem or64' (i : Nat) (x y : Int) (hx : W64 x) (hxi : x < 2 ^ i) (hy : W64 y) (hi : y % 2 ^ i = 0) : Go.bits .or .u64 x y = x + y := by
  have h : Go.bits .or .u64 x y = Go.bits .or .u64 y x := by
    show IntKind.u64.wrap (((BitVec.ofInt 64 x ||| BitVec.ofInt 64 y).toNat : Nat) : Int) = IntKind.u64.wrap (((BitVec.ofInt 64 y ||| BitVec.ofInt 64 x).toNat : Nat) : Int)
    rw [BitVec.or_comm]
  rw [h, or64 i y x hy hi hx hxi, Int.add_comm]
theorem xor64 (a b : Nat) (ha : a < 2 ^ 64) (hb : b < 2 ^ 64) : Go.bits .xor .u64 (a : Int) (b : Int) = ((a ^^^ b : Nat) : Int) := by
  show IntKind.u64.wrap (((BitVec.ofInt 64 (a : Int) ^^^ BitVec.ofInt 64 (b : Int)).toNat : Nat) : Int) = _
  have e1 : (BitVec.ofInt 64 (a : Int) ^^^ BitVec.ofInt 64 (b : Int)).toNat = a ^^^ b := by
    rw [BitVec.toNat_xor, BitVec.toNat_ofInt, BitVec.toNat_ofInt]
    congr 1 <;> omega
  rw [e1]
  have := Nat.xor_lt_two_pow ha hb
  exact wraps64 _ (by omega) (by omega)
theorem xor_zero (x : Int) (h : W64 x) : Go.bits .xor .u64 0 x = x := by
  obtain ⟨n, rfl⟩ := Int.eq_ofNat_of_zero_le h.1
  have := xor64 0 n (by omega) (by have := h.2; omega)
  rw [Nat.zero_xor] at this
  exact this
theorem not64_eq (e : Int) (h : W64 e) : IntKind.u64.wrap (18446744073709551615 - e) = not64 e := by
  obtain ⟨n, rfl⟩ := Int.eq_ofNat_of_zero_le h.1
  have hn : n < 18446744073709551616 := by have := h.2; omega
  unfold not64
  show _ = IntKind.u64.wrap (((BitVec.ofInt 64 18446744073709551615 ^^^ BitVec.ofInt 64 (n : Int)).toNat : Nat) : Int)
  have h1 : (BitVec.ofInt 64 18446744073709551615 ^^^ BitVec.ofInt 64 (n : Int)).toNat = 18446744073709551615 - n := by
    have e1 : BitVec.ofInt 64 18446744073709551615 = BitVec.allOnes 64 := by decide
    rw [e1, BitVec.allOnes_xor, BitVec.toNat_not, BitVec.toNat_ofInt]
    omega
  rw [h1, wrapU, wrapU]
  omega
theorem rotl_w (x : Int) (n : Nat) : W64 (rotl x n) := W64.or _ _
theorem rotl_zero (x : Int) (h : W64 x) : rotl x 0 = x := by
  unfold rotl
  have h1 := h.1
  have h2 := h.2
  have e : x / 2 ^ (64 - 0) = 0 := Int.ediv_eq_zero_of_lt h1 (by simpa using h2)
  rw [e, wrapU, show x * 2 ^ 0 % 18446744073709551616 = x by omega, or64 0 x 0 h (by omega) ⟨by decide, by decide⟩ (by decide)]
  omega
/-- A word turned left, by doubling. -/
theorem left_loop (x : Int) (n : Nat) (hn : n < 64) (r : Int) (h : Ev (fun k => spec_l07Left.l0 k x (n : Int) ((2 ^ n : Nat) : Int) (n : Int)) r) : Ev (fun k => spec_l07Left.f k x (n : Int)) r := by
  refine Ev.up (g := fun i k => spec_l07Left.l0 k x (n : Int) ((2 ^ i : Nat) : Int) (i : Int)) n ?_ h 0 (Nat.zero_le _)
  intro i hi hh
  refine Ev.step (fun k => ?_) hh
  have hp : 2 ^ (i + 1) < 2 ^ 64 := Nat.pow_lt_pow_right (by decide) (by omega)
  simp only [spec_l07Left.l0]
  rw [if_pos (by omega), w64s i (by omega), wrapU]
  congr 1
  rw [Nat.pow_succ] at hp ⊢
  omega
theorem left_ev (x : Int) (n : Nat) (h : W64 x) (hn : n < 64) : Ev (fun k => spec_l07Left.f k x (n : Int)) (rotl x n) := by
  refine left_loop x n hn _ ?_
  refine Ev.step (f := fun _ => some (rotl x n)) (fun k => ?_) (Ev.now _)
  simp only [spec_l07Left.l0]
  rw [if_neg (by omega)]
  by_cases h0 : n = 0
  · subst h0
    rw [if_pos (by rfl), rotl_zero x h]
  rw [if_neg (by omega)]
  obtain ⟨A, hA⟩ : ∃ A : Nat, A = 2 ^ n := ⟨_, rfl⟩
  obtain ⟨B, hB⟩ : ∃ B : Nat, B = 2 ^ (64 - n) := ⟨_, rfl⟩
  obtain ⟨C, hC⟩ : ∃ C : Nat, C = 2 ^ (63 - n) := ⟨_, rfl⟩
  have hA0 : 0 < A := by rw [hA]; exact Nat.pow_pos (by decide)
  have hC0 : 0 < C := by rw [hC]; exact Nat.pow_pos (by decide)
  have hCA : C * A = 9223372036854775808 := by rw [hA, hC, ← Nat.pow_add, show 63 - n + n = 63 by omega]
  have hBC : B = C * 2 := by rw [hB, hC, show 64 - n = 63 - n + 1 by omega, Nat.pow_succ]
  have hA2 : A < 18446744073709551616 := by have h4 : 2 ^ n < 2 ^ 64 := Nat.pow_lt_pow_right (by decide) hn; omega
  have hC2 : C ≤ 4611686018427387904 := by
    have : C ≤ 2 ^ 62 := by rw [hC]; exact Nat.pow_le_pow_right (by decide) (by omega)
    omega
  rw [← hA, if_neg (by omega)]
  have e1 : Int.tdiv (9223372036854775808 : Int) (A : Int) = (C : Int) := by
    rw [Int.tdiv_eq_ediv_of_nonneg (by decide), show (9223372036854775808 : Int) = ((C * A : Nat) : Int) by rw [hCA]; rfl]
    rw [← Int.natCast_ediv, Nat.mul_div_cancel _ hA0]
  have e2 : IntKind.u64.wrap ((IntKind.u64.wrap (C : Int)) * 2) = (B : Int) := by rw [wrapU, wrapU]; omega
  rw [e1, e2, if_neg (by omega)]
  have hx1 := h.1
  have hx2 := h.2
  rw [Int.tdiv_eq_ediv_of_nonneg hx1]
  obtain ⟨m, rfl⟩ := Int.eq_ofNat_of_zero_le hx1
  have hm : m < 18446744073709551616 := by omega
  have hBA : B * A = 18446744073709551616 := by rw [hBC, Nat.mul_assoc, Nat.mul_comm 2 A, ← Nat.mul_assoc, hCA]
  have hd : m / B < A := Nat.div_lt_of_lt_mul (by rw [hBA]; exact hm)
  have hlow : m * A % 18446744073709551616 = (m % B) * A := by
    rw [← hBA, Nat.mul_mod_mul_right]
  have hAi : (2 : Int) ^ n = (A : Int) := by rw [hA, Int.natCast_pow]; rfl
  have hBi : (2 : Int) ^ (64 - n) = (B : Int) := by rw [hB, Int.natCast_pow]; rfl
  have hq : ((m : Int) / 2 ^ (64 - n)) = ((m / B : Nat) : Int) := by rw [hBi, ← Int.natCast_ediv]
  have hp2 : IntKind.u64.wrap ((m : Int) * (A : Int)) = (((m % B) * A : Nat) : Int) := by
    rw [wrapU, ← hlow, ← Int.natCast_mul]
    generalize m * A = z
    omega
  have hp : IntKind.u64.wrap ((m : Int) * 2 ^ n) = (((m % B) * A : Nat) : Int) := by rw [hAi, hp2]
  have hlt : (m % B) * A < 18446744073709551616 := by rw [← hlow]; exact Nat.mod_lt _ (by decide)
  have hsum : (m % B) * A + m / B < 18446744073709551616 := by
    have h3 : (m % B + 1) * A ≤ B * A := Nat.mul_le_mul_right _ (Nat.mod_lt _ (by omega))
    rw [hBA, Nat.add_mul, Nat.one_mul] at h3
    omega
  unfold rotl
  rw [hp, hp2, hq]
  have hmn : (((m % B) * A : Nat) : Int) % 2 ^ n = 0 := by rw [hAi, ← Int.natCast_emod, Nat.mul_mod_left]; rfl
  rw [← Int.natCast_ediv]
  generalize (m % B) * A = z at hlt hsum hmn ⊢
  generalize m / B = y at hd hsum ⊢
  rw [or64 n (z : Int) (y : Int) ⟨by omega, by omega⟩ hmn ⟨by omega, by omega⟩ (by rw [hAi]; omega), wrapU, wrapU]
  congr 1
  omega
end Go.Proofs.YthdjmbbkenbeiaaDoor.Pure
namespace Go.Proofs.YthdjmbbkenbeiaaDoor.Pure
open Go.RowKit Go.Proofs.YthdjmbbkenbeiaaDoorW.PrintWords Go.Proofs.YthdjmbbkenbeiaaDoorW.PrintLast Go.Proofs.YthdjmbbkenbeiaaDoorW.PrintMore Go.Proofs.YthdjmbbkenbeiaaDoor.P Go.Proofs.YthdjmbbkenbeiaaDoor.Kit
set_option linter.unusedVariables false
set_option linter.unusedSimpArgs false

theorem rd_set (l : List Int) (i j : Nat) (v : Int) (hi : i < l.length) : rd (l.set i v) (j : Int) = if j = i then v else rd l (j : Int) := by
  rw [rd_nat, rd_nat, List.getD_eq_getElem?_getD, List.getD_eq_getElem?_getD, List.getElem?_set]
  by_cases h : i = j
  · subst h
    rw [if_pos rfl, if_pos rfl, if_pos hi]; rfl
  · rw [if_neg h, if_neg (Ne.symm h)]
theorem rd_zeros (n j : Nat) : rd (List.replicate n 0) (j : Int) = 0 := by
  rw [rd_nat, List.getD_eq_getElem?_getD]
  by_cases h : j < n
  · rw [List.getElem?_replicate_of_lt h]; rfl
  · rw [List.getElem?_eq_none (by rw [List.length_replicate]; omega)]; rfl
theorem rd_ext {l u : List Int} (h : l.length = u.length) (hr : ∀ i : Nat, i < l.length → rd l (i : Int) = rd u (i : Int)) : l = u := by
  apply List.ext_getElem h
  intro i h1 h2
  have := hr i h1
  rw [rd_get l i h1, rd_get u i h2] at this
  exact this
theorem rd_in {P : Int → Prop} {l : List Int} (h : ∀ x ∈ l, P x) (i : Nat) (hi : i < l.length) : P (rd l (i : Int)) := by
  rw [rd_get l i hi]; exact h _ (List.getElem_mem hi)
def xr (a b : Int) : Int := Go.bits .xor .u64 a b
/-- A column's sum, n of its lanes. -/
def colS (a : List Int) (x : Nat) : Nat → Int
  | 0 => 0
  | n + 1 => xr (colS a x n) (rd a ((x + 5 * n : Nat) : Int))
theorem thC_rd (a : List Int) (x : Nat) (hx : x < 5) : ∀ m, rd (thC a m) (x : Int) = colS a x ((m + 4 - x) / 5)
  | 0 => by
    rw [show (0 + 4 - x) / 5 = 0 by omega]
    exact rd_zeros 5 x
  | m + 1 => by
    simp only [thC]
    rw [rd_set _ _ _ _ (by rw [thC_len]; omega), thC_rd a x hx m]
    by_cases h : x = m % 5
    · rw [if_pos h, ← h, thC_rd a x hx m, show (m + 1 + 4 - x) / 5 = (m + 4 - x) / 5 + 1 by omega]
      simp only [colS, xr]
      rw [show x + 5 * ((m + 4 - x) / 5) = m by omega]
    · rw [if_neg h, show (m + 1 + 4 - x) / 5 = (m + 4 - x) / 5 by omega]
/-- What is mixed into column x. -/
def mixD (c : List Int) (x : Nat) : Int := xr (rd c (((x + 4) % 5 : Nat) : Int)) (rotl (rd c (((x + 1) % 5 : Nat) : Int)) 1)
theorem thA_rd (a c : List Int) (i : Nat) : ∀ m, m ≤ a.length → rd (thA a c m) (i : Int) = if i < m then xr (rd a (i : Int)) (mixD c (i % 5)) else rd a (i : Int)
  | 0, _ => by rw [if_neg (by omega)]; rfl
  | m + 1, h => by
    simp only [thA]
    rw [rd_set _ _ _ _ (by rw [thA_len]; omega), thA_rd a c i m (by omega)]
    by_cases e : i = m
    · subst e
      rw [if_pos rfl, if_pos (by omega), thA_rd a c i i (by omega), if_neg (by omega)]
      rfl
    · rw [if_neg e]
      by_cases e2 : i < m
      · rw [if_pos e2, if_pos (by omega)]
      · rw [if_neg e2, if_neg (by omega)]
theorem chA_rd (a : List Int) (i : Nat) : ∀ m, m ≤ 25 → rd (chA a m) (i : Int) = if i < m then xr (rd a (i : Int)) (Go.bits .and .u64 (not64 (rd a (((i % 5 + 1) % 5 + 5 * (i / 5) : Nat) : Int))) (rd a (((i % 5 + 2) % 5 + 5 * (i / 5) : Nat) : Int))) else 0
  | 0, _ => by rw [if_neg (by omega)]; exact rd_zeros 25 i
  | m + 1, h => by
    simp only [chA]
    rw [rd_set _ _ _ _ (by rw [chA_len]; omega), chA_rd a i m (by omega)]
    by_cases e : i = m
    · subst e
      rw [if_pos rfl, if_pos (by omega)]
      rfl
    · rw [if_neg e]
      by_cases e2 : i < m
      · rw [if_pos e2, if_pos (by omega)]
      · rw [if_neg e2, if_neg (by omega)]
/-- Where the lane at (x, y) goes. -/
def goes (x y : Nat) : Nat := y + 5 * ((2 * x + 3 * y) % 5)
theorem goes_inj : ∀ x < 5, ∀ y < 5, ∀ u < 5, ∀ v < 5, goes x y = goes u v → x = u ∧ y = v := by
  intro x hx y hy u hu v hv h
  unfold goes at h
  have e : y = v := by omega
  subst e
  have e2 : (2 * x + 3 * y) % 5 = (2 * u + 3 * y) % 5 := by omega
  clear h
  omega
theorem goes_lt (x y : Nat) (hy : y < 5) : goes x y < 25 := by unfold goes; omega
theorem goes_all : ∀ i < 25, ∃ x < 5, ∃ y < 5, goes x y = i := by decide
def turnsV : List Int := [0, 1, 62, 28, 27, 36, 44, 6, 55, 20, 3, 10, 43, 25, 39, 41, 45, 15, 21, 8, 18, 2, 61, 56, 14]
theorem rp_zero : ∀ t < 24, (rpXY (t + 1)).1 + 5 * (rpXY (t + 1)).2 ≠ 0 := by decide
theorem rp_inj : ∀ s < 24, ∀ t < 24, (rpXY (s + 1)).1 + 5 * (rpXY (s + 1)).2 = (rpXY (t + 1)).1 + 5 * (rpXY (t + 1)).2 → s = t := by decide
theorem rpA_rd (a : List Int) (s : Nat) (hs : s < 24) : ∀ t, t ≤ 24 → rd (rpA a t) (((rpXY (s + 1)).1 + 5 * (rpXY (s + 1)).2 : Nat) : Int) = if s < t then rotl (rd a (((rpXY s).1 + 5 * (rpXY s).2 : Nat) : Int)) (rpN s) else 0
  | 0, _ => by
    rw [if_neg (by omega)]
    simp only [rpA]
    rw [rd_set _ _ _ _ (by decide), if_neg (rp_zero s hs)]
    exact rd_zeros 25 _
  | t + 1, h => by
    simp only [rpA]
    have hl := rpXY_lt (t + 1)
    rw [rd_set _ _ _ _ (by rw [rpA_len]; omega), rpA_rd a s hs t (by omega)]
    by_cases e : s = t
    · subst e
      rw [if_pos rfl, if_pos (by omega)]
    · rw [if_neg (fun h2 => e (rp_inj s hs t (by omega) h2))]
      by_cases e2 : s < t
      · rw [if_pos e2, if_pos (by omega)]
      · rw [if_neg e2, if_neg (by omega)]
theorem rpA_rd0 (a : List Int) : ∀ t, t ≤ 24 → rd (rpA a t) ((0 : Nat) : Int) = rd a ((0 : Nat) : Int)
  | 0, _ => by
    simp only [rpA]
    rw [rd_set _ _ _ _ (by decide), if_pos rfl]
  | t + 1, h => by
    simp only [rpA]
    have hl := rpXY_lt (t + 1)
    rw [rd_set _ _ _ _ (by rw [rpA_len]; omega), if_neg (Ne.symm (rp_zero t (by omega))), rpA_rd0 a t (by omega)]
theorem rp_find : ∀ x < 5, ∀ y < 5, (x = 0 ∧ y = 0) ∨ ∃ t < 24, (rpXY t).1 = x ∧ (rpXY t).2 = y ∧ goes x y = (rpXY (t + 1)).1 + 5 * (rpXY (t + 1)).2 ∧ rd turnsV ((x + 5 * y : Nat) : Int) = ((rpN t : Nat) : Int) ∧ rpN t < 64 := by decide
/-- A lane turned and moved. -/
theorem rhoPi_rd (a : List Int) (ha : ∀ x ∈ a, W64 x) (hl : a.length = 25) (x y : Nat) (hx : x < 5) (hy : y < 5) : ∃ n < 64, rd turnsV ((x + 5 * y : Nat) : Int) = ((n : Nat) : Int) ∧ rd (impl_rhoPi.v a) ((goes x y : Nat) : Int) = rotl (rd a ((x + 5 * y : Nat) : Int)) n := by
  rcases rp_find x hx y hy with ⟨rfl, rfl⟩ | ⟨t, ht, h1, h2, h3, h4, h5⟩
  · refine ⟨0, by decide, by decide, ?_⟩
    rw [rotl_zero _ (rd_in ha _ (by omega))]
    exact rpA_rd0 a 24 (Nat.le_refl _)
  · refine ⟨rpN t, h5, h4, ?_⟩
    rw [h3, impl_rhoPi.v, rpA_rd a t ht 24 (Nat.le_refl _), if_pos ht, h1, h2]

theorem theta_rd (a : List Int) (hl : a.length = 25) (i : Nat) (hi : i < 25) : rd (impl_theta.v a) (i : Int) = xr (rd a (i : Int)) (mixD (thC a 25) (i % 5)) := by
  unfold impl_theta.v
  rw [thA_rd a _ i 25 (by omega), if_pos hi]
theorem mem_rd {P : Int → Prop} {l : List Int} (h : ∀ i : Nat, i < l.length → P (rd l (i : Int))) : ∀ x ∈ l, P x := by
  intro x hx
  obtain ⟨i, hi, rfl⟩ := List.mem_iff_getElem.mp hx
  have := h i hi
  rw [rd_get l i hi] at this
  exact this
theorem theta_w (a : List Int) (hl : a.length = 25) : ∀ x ∈ impl_theta.v a, W64 x :=
  mem_rd fun i hi => by rw [theta_rd a hl i (by rw [theta_len a hl] at hi; exact hi)]; exact W64.xor _ _
theorem chi_w (a : List Int) : ∀ x ∈ impl_chi.v a, W64 x :=
  mem_rd fun i hi => by
    unfold impl_chi.v at hi ⊢
    rw [chA_len] at hi
    rw [chA_rd a i 25 (Nat.le_refl _), if_pos hi]; exact W64.xor _ _
theorem thC_w (a : List Int) (j : Nat) (hj : j < 5) : W64 (rd (thC a 25) (j : Int)) := by
  rw [thC_rd a j hj 25, show (25 + 4 - j) / 5 = 5 by omega]
  exact W64.xor _ _

/-- The columns' sums, as the reference makes them. -/
def cL (a : List Int) : Nat → List Int
  | 0 => List.replicate 5 0
  | i + 1 => (cL a i).set i (xr (xr (xr (xr (rd a (i : Int)) (rd a ((i + 5 : Nat) : Int))) (rd a ((i + 10 : Nat) : Int))) (rd a ((i + 15 : Nat) : Int))) (rd a ((i + 20 : Nat) : Int)))
theorem cL_len (a : List Int) : ∀ i, (cL a i).length = 5
  | 0 => rfl
  | i + 1 => by simp only [cL, List.length_set, cL_len a i]
theorem cL_rd (a : List Int) (j : Nat) : ∀ i, i ≤ 5 → j < i → rd (cL a i) (j : Int) = xr (xr (xr (xr (rd a (j : Int)) (rd a ((j + 5 : Nat) : Int))) (rd a ((j + 10 : Nat) : Int))) (rd a ((j + 15 : Nat) : Int))) (rd a ((j + 20 : Nat) : Int))
  | 0, _, h => absurd h (by omega)
  | i + 1, h, hj => by
    simp only [cL]
    rw [rd_set _ _ _ _ (by rw [cL_len]; omega)]
    by_cases e : j = i
    · subst e; rw [if_pos rfl]
    · rw [if_neg e, cL_rd a j i (by omega) (by omega)]
theorem cL_thC (a : List Int) (hl : a.length = 25) (ha : ∀ x ∈ a, W64 x) : cL a 5 = thC a 25 := by
  apply rd_ext (by rw [cL_len, thC_len])
  intro i hi
  rw [cL_len] at hi
  rw [cL_rd a i 5 (Nat.le_refl _) hi, thC_rd a i hi 25, show (25 + 4 - i) / 5 = 5 by omega]
  simp only [colS, xr]
  rw [show i + 5 * 0 = i by omega, xor_zero _ (rd_in ha i (by omega))]
/-- The lanes turned and moved, n of them, as the reference makes them. -/
def bL (a : List Int) : Nat → List Int
  | 0 => List.replicate 25 0
  | n + 1 => (bL a n).set (goes (n / 5) (n % 5)) (rotl (xr (rd a ((n / 5 + 5 * (n % 5) : Nat) : Int)) (mixD (thC a 25) (n / 5))) (rd turnsV ((n / 5 + 5 * (n % 5) : Nat) : Int)).toNat)
theorem bL_len (a : List Int) : ∀ i, (bL a i).length = 25
  | 0 => rfl
  | i + 1 => by simp only [bL, List.length_set, bL_len a i]
theorem bL_rd (a : List Int) (x y : Nat) (hx : x < 5) (hy : y < 5) : ∀ n, n ≤ 25 → 5 * x + y < n → rd (bL a n) ((goes x y : Nat) : Int) = rotl (xr (rd a ((x + 5 * y : Nat) : Int)) (mixD (thC a 25) x)) (rd turnsV ((x + 5 * y : Nat) : Int)).toNat
  | 0, _, h => absurd h (by omega)
  | n + 1, h, hj => by
    simp only [bL]
    rw [rd_set _ _ _ _ (by rw [bL_len]; exact goes_lt _ _ (by omega))]
    by_cases e : 5 * x + y = n
    · have e1 : n / 5 = x := by omega
      have e2 : n % 5 = y := by omega
      rw [e1, e2, if_pos rfl]
    · rw [if_neg (fun h2 => by have := goes_inj x hx y hy (n / 5) (by omega) (n % 5) (by omega) h2; omega), bL_rd a x y hx hy n (by omega) (by omega)]
theorem bL_rhoPi (a : List Int) (hl : a.length = 25) : bL a 25 = impl_rhoPi.v (impl_theta.v a) := by
  apply rd_ext (by rw [bL_len, rhoPi_len])
  intro i hi
  rw [bL_len] at hi
  obtain ⟨x, hx, y, hy, rfl⟩ := goes_all i hi
  obtain ⟨n, hn, h1, h2⟩ := rhoPi_rd (impl_theta.v a) (theta_w a hl) (theta_len a hl) x y hx hy
  rw [bL_rd a x y hx hy 25 (Nat.le_refl _) (by omega), h1, h2, theta_rd a hl _ (by omega), show (x + 5 * y) % 5 = x by omega, Int.toNat_natCast]
/-- The rows mixed, n lanes, as the reference makes them. -/
def hL (b : List Int) : Nat → List Int
  | 0 => List.replicate 25 0
  | n + 1 => (hL b n).set (n / 5 + 5 * (n % 5)) (xr (rd b ((n / 5 + 5 * (n % 5) : Nat) : Int)) (Go.bits .and .u64 (not64 (rd b (((n / 5 + 1) % 5 + 5 * (n % 5) : Nat) : Int))) (rd b (((n / 5 + 2) % 5 + 5 * (n % 5) : Nat) : Int))))
theorem hL_len (b : List Int) : ∀ i, (hL b i).length = 25
  | 0 => rfl
  | i + 1 => by simp only [hL, List.length_set, hL_len b i]
theorem hL_rd (b : List Int) (x y : Nat) (hx : x < 5) (hy : y < 5) : ∀ n, n ≤ 25 → 5 * x + y < n → rd (hL b n) ((x + 5 * y : Nat) : Int) = xr (rd b ((x + 5 * y : Nat) : Int)) (Go.bits .and .u64 (not64 (rd b (((x + 1) % 5 + 5 * y : Nat) : Int))) (rd b (((x + 2) % 5 + 5 * y : Nat) : Int)))
  | 0, _, h => absurd h (by omega)
  | n + 1, h, hj => by
    simp only [hL]
    rw [rd_set _ _ _ _ (by rw [hL_len]; omega)]
    by_cases e : 5 * x + y = n
    · have e1 : n / 5 = x := by omega
      have e2 : n % 5 = y := by omega
      rw [e1, e2, if_pos rfl]
    · rw [if_neg (by omega), hL_rd b x y hx hy n (by omega) (by omega)]
theorem hL_chi (b : List Int) : hL b 25 = impl_chi.v b := by
  apply rd_ext (by rw [hL_len]; exact (chA_len _ _).symm)
  intro i hi
  rw [hL_len] at hi
  have h1 := hL_rd b (i % 5) (i / 5) (by omega) (by omega) 25 (Nat.le_refl _) (by omega)
  rw [show i % 5 + 5 * (i / 5) = i by omega] at h1
  rw [h1, impl_chi.v, chA_rd b i 25 (Nat.le_refl _), if_pos hi]
end Go.Proofs.YthdjmbbkenbeiaaDoor.Pure
namespace Go.Proofs.YthdjmbbkenbeiaaDoor.Pure
open Go.RowKit Go.Proofs.YthdjmbbkenbeiaaDoorW.PrintWords Go.Proofs.YthdjmbbkenbeiaaDoorW.PrintLast Go.Proofs.YthdjmbbkenbeiaaDoorW.PrintMore Go.Proofs.YthdjmbbkenbeiaaDoor.P Go.Proofs.YthdjmbbkenbeiaaDoor.Kit
set_option linter.unusedVariables false
set_option linter.unusedSimpArgs false

def roundV (a : List Int) (rc : Int) : List Int := (oneRound a).set 0 (Go.bits .xor .u64 (rd (oneRound a) ((0 : Nat) : Int)) rc)
theorem chi_loop (b : List Int) (hb : b.length = 25) (hw : ∀ x ∈ b, W64 x) (rc : Int) : Ev (fun k => spec_l07Round.l3 k rc b (List.replicate 25 0) 0) ((impl_chi.v b).set 0 (Go.bits .xor .u64 (rd (impl_chi.v b) ((0 : Nat) : Int)) rc)) := by
  refine Ev.up (g := fun i k => spec_l07Round.l3 k rc b (hL b (5 * i)) (i : Int)) 5 ?_ ?_ 0 (Nat.zero_le _)
  · intro x hx hh
    refine Ev.step (f := fun k => spec_l07Round.l4 k rc b (hL b (5 * x)) (x : Int) 0) (fun k => ?_) ?_
    · simp only [spec_l07Round.l3]
      rw [if_pos (by omega)]
    · refine Ev.up (g := fun j k => spec_l07Round.l4 k rc b (hL b (5 * x + j)) (x : Int) (j : Int)) 5 ?_ ?_ 0 (Nat.zero_le _)
      · intro y hy h2
        refine Ev.step (fun k => ?_) h2
        have e1 : wrap64 ((x : Int) + wrap64 (5 * (y : Int))) = ((x + 5 * y : Nat) : Int) := by
          rw [w64 (x := 5 * (y : Int)) (by omega) (by omega), w64 (by omega) (by omega)]; omega
        have e2 : wrap64 (Int.tmod (wrap64 ((x : Int) + 1)) 5 + wrap64 (5 * (y : Int))) = (((x + 1) % 5 + 5 * y : Nat) : Int) := by
          rw [w64 (x := (x : Int) + 1) (by omega) (by omega), w64 (x := 5 * (y : Int)) (by omega) (by omega), Int.tmod_eq_emod_of_nonneg (by omega), w64 (by omega) (by omega)]; omega
        have e3 : wrap64 (Int.tmod (wrap64 ((x : Int) + 2)) 5 + wrap64 (5 * (y : Int))) = (((x + 2) % 5 + 5 * y : Nat) : Int) := by
          rw [w64 (x := (x : Int) + 2) (by omega) (by omega), w64 (x := 5 * (y : Int)) (by omega) (by omega), Int.tmod_eq_emod_of_nonneg (by omega), w64 (by omega) (by omega)]; omega
        simp only [spec_l07Round.l4, e1, e2, e3]
        have hl := hL_len b (5 * x + y)
        rw [if_pos (by omega), if_pos (by omega), if_pos (by omega), if_pos (by omega), if_pos (by omega), if_pos (by omega), if_pos (by omega), if_pos (by omega), w64s y (by omega), not64_eq _ (rd_in hw _ (by omega)), Int.toNat_natCast]
        congr 1
        show _ = hL b (5 * x + y + 1)
        simp only [hL, xr]
        rw [show (5 * x + y) / 5 = x by omega, show (5 * x + y) % 5 = y by omega]
      · refine Ev.step (fun k => ?_) hh
        simp only [spec_l07Round.l4]
        rw [if_neg (by omega), w64s x (by omega)]
        rfl
  · refine Ev.step (f := fun _ => some ((impl_chi.v b).set 0 (Go.bits .xor .u64 (rd (impl_chi.v b) ((0 : Nat) : Int)) rc))) (fun k => ?_) (Ev.now _)
    simp only [spec_l07Round.l3]
    have hl := hL_len b 25
    rw [if_neg (by omega), show 5 * 5 = 25 from rfl, if_pos (by omega), hL_chi]
    rfl
theorem at_goes (x y : Nat) (hx : x < 5) (hy : y < 5) : wrap64 ((y : Int) + wrap64 (5 * Int.tmod (wrap64 (wrap64 (2 * (x : Int)) + wrap64 (3 * (y : Int)))) 5)) = ((goes x y : Nat) : Int) := by
  have h1 : wrap64 (2 * (x : Int)) = 2 * (x : Int) := w64 (by omega) (by omega)
  have h2 : wrap64 (3 * (y : Int)) = 3 * (y : Int) := w64 (by omega) (by omega)
  have h3 : wrap64 (2 * (x : Int) + 3 * (y : Int)) = 2 * (x : Int) + 3 * (y : Int) := w64 (by omega) (by omega)
  rw [h1, h2, h3, Int.tmod_eq_emod_of_nonneg (by omega)]
  have h4 : wrap64 (5 * ((2 * (x : Int) + 3 * (y : Int)) % 5)) = 5 * ((2 * (x : Int) + 3 * (y : Int)) % 5) := w64 (by omega) (by omega)
  rw [h4, w64 (by omega) (by omega)]
  unfold goes
  omega
theorem at_lane (x y : Nat) (hx : x < 5) (hy : y < 5) : wrap64 ((x : Int) + wrap64 (5 * (y : Int))) = ((x + 5 * y : Nat) : Int) := by
  have h1 : wrap64 (5 * (y : Int)) = 5 * (y : Int) := w64 (by omega) (by omega)
  rw [h1, w64 (by omega) (by omega)]
  omega
theorem mix_loop (a c T : List Int) (B : Nat → List Int) (hl : a.length = 25) (rc : Int) (r : List Int) (hc : c.length = 5) (hcw : ∀ j : Nat, j < 5 → W64 (rd c (j : Int))) (htl : T.length = 25)
    (hT : ∀ x y : Nat, x < 5 → y < 5 → ∃ n < 64, rd T ((x + 5 * y : Nat) : Int) = ((n : Nat) : Int)) (hB0 : B 0 = List.replicate 25 0) (hBl : ∀ n, (B n).length = 25)
    (hBs : ∀ x y : Nat, x < 5 → y < 5 → B (5 * x + y + 1) = (B (5 * x + y)).set (goes x y) (rotl (xr (rd a ((x + 5 * y : Nat) : Int)) (mixD c x)) (rd T ((x + 5 * y : Nat) : Int)).toNat))
    (h : Ev (fun k => spec_l07Round.l3 k rc (B 25) (List.replicate 25 0) 0) r) : Ev (fun k => spec_l07Round.l1 k a T rc c (List.replicate 25 0) 0) r := by
  rw [← hB0]
  refine Ev.up (g := fun i k => spec_l07Round.l1 k a T rc c (B (5 * i)) (i : Int)) 5 ?_ ?_ 0 (Nat.zero_le _)
  · intro x hx hh
    have e1 : Int.tmod (wrap64 ((x : Int) + 4)) 5 = (((x + 4) % 5 : Nat) : Int) := by
      rw [w64 (x := (x : Int) + 4) (by omega) (by omega), Int.tmod_eq_emod_of_nonneg (by omega)]; omega
    have e2 : Int.tmod (wrap64 ((x : Int) + 1)) 5 = (((x + 1) % 5 : Nat) : Int) := by
      rw [w64 (x := (x : Int) + 1) (by omega) (by omega), Int.tmod_eq_emod_of_nonneg (by omega)]; omega
    refine Ev.step (f := fun k => (spec_l07Left.f k (rd c (((x + 1) % 5 : Nat) : Int)) ((1 : Nat) : Int)).bind fun t => spec_l07Round.l2 k a T rc c (B (5 * x)) (x : Int) (Go.bits .xor .u64 (rd c (((x + 4) % 5 : Nat) : Int)) t) ((0 : Nat) : Int)) (fun k => ?_) ?_
    · simp only [spec_l07Round.l1, e1, e2]
      rw [if_pos (by omega), if_pos (by omega), if_pos (by omega), if_pos (by omega), if_pos (by omega)]
      rfl
    · refine Ev.bind (left_ev _ 1 (hcw _ (by omega)) (by decide)) ?_
      have hm : Go.bits .xor .u64 (rd c (((x + 4) % 5 : Nat) : Int)) (rotl (rd c (((x + 1) % 5 : Nat) : Int)) 1) = mixD c x := rfl
      rw [hm]
      clear hm e1 e2
      have hB2 := fun y hy => hBs x y hx hy
      generalize mixD c x = D at hB2 ⊢
      refine Ev.up (g := fun j k => spec_l07Round.l2 k a T rc c (B (5 * x + j)) (x : Int) D (j : Int)) 5 ?_ ?_ 0 (Nat.zero_le _)
      · intro y hy h2
        have hg := goes_lt x y hy
        have hbl := hBl (5 * x + y)
        have c1 : (y : Int) < 5 := by omega
        have c2 : (0 : Int) ≤ ((x + 5 * y : Nat) : Int) := by omega
        have c3 : ((x + 5 * y : Nat) : Int) < (a.length : Int) := by rw [hl]; omega
        have c4 : ((x + 5 * y : Nat) : Int) < (T.length : Int) := by rw [htl]; omega
        have c5 : y < 9223372036854775807 := by omega
        have c6 : (0 : Int) ≤ ((goes x y : Nat) : Int) := by omega
        have c7 : ((goes x y : Nat) : Int) < ((B (5 * x + y)).length : Int) := by rw [hbl]; omega
        have e1 := at_lane x y hx hy
        have e2 := at_goes x y hx hy
        obtain ⟨n, hn, h3⟩ := hT x y hx hy
        refine Ev.step (f := fun k => (spec_l07Left.f k (Go.bits .xor .u64 (rd a ((x + 5 * y : Nat) : Int)) D) ((n : Nat) : Int)).bind fun t => spec_l07Round.l2 k a T rc c ((B (5 * x + y)).set (goes x y) t) (x : Int) D ((y + 1 : Nat) : Int)) (fun k => ?_) ?_
        · simp only [spec_l07Round.l2, e1, e2, h3]
          rw [if_pos c1, if_pos c2, if_pos c3, if_pos c4, w64s y c5]
          congr 1
          funext t
          rw [if_pos c6, if_pos c7, Int.toNat_natCast]
        · refine Ev.bind (left_ev _ n (W64.xor _ _) hn) ?_
          have h4 := hB2 y hy
          rw [h3, Int.toNat_natCast] at h4
          unfold xr at h4
          rw [show 5 * x + (y + 1) = 5 * x + y + 1 from rfl, h4] at h2
          exact h2
      · refine Ev.step (fun k => ?_) hh
        simp only [spec_l07Round.l2]
        rw [if_neg (by omega), w64s x (by omega), show 5 * x + 5 = 5 * (x + 1) by omega]
  · refine Ev.step (fun k => ?_) h
    simp only [spec_l07Round.l1]
    rw [if_neg (by omega), if_pos (by decide)]
theorem bL_w (a : List Int) (hl : a.length = 25) : ∀ x ∈ bL a 25, W64 x := by
  refine mem_rd fun i hi => ?_
  rw [bL_len] at hi
  obtain ⟨x, hx, y, hy, rfl⟩ := goes_all i hi
  rw [bL_rd a x y hx hy 25 (Nat.le_refl _) (by omega)]
  exact rotl_w _ _
theorem mix_ev (a : List Int) (hl : a.length = 25) (ha : ∀ x ∈ a, W64 x) (rc : Int) : Ev (fun k => spec_l07Round.l1 k a turnsV rc (thC a 25) (List.replicate 25 0) 0) (roundV a rc) := by
  refine mix_loop a (thC a 25) turnsV (bL a) hl rc _ (thC_len a 25) (thC_w a) rfl ?_ rfl (bL_len a) ?_ ?_
  · intro x y hx hy
    obtain ⟨n, hn, h3, _⟩ := rhoPi_rd a ha hl x y hx hy
    exact ⟨n, hn, h3⟩
  · intro x y hx hy
    simp only [bL]
    rw [show (5 * x + y) / 5 = x by omega, show (5 * x + y) % 5 = y by omega]
  · have h := chi_loop (bL a 25) (bL_len a 25) (bL_w a hl) rc
    rw [show impl_chi.v (bL a 25) = oneRound a by rw [bL_rhoPi a hl]; rfl] at h
    exact h
theorem round_ev (a : List Int) (hl : a.length = 25) (ha : ∀ x ∈ a, W64 x) (rc : Int) : Ev (fun k => spec_l07Round.f k a turnsV rc) (roundV a rc) := by
  unfold spec_l07Round.f
  refine Ev.pos (by decide) ?_
  refine Ev.up (g := fun i k => spec_l07Round.l0 k a turnsV rc (cL a i) (i : Int)) 5 ?_ ?_ 0 (Nat.zero_le _)
  · intro i hi hh
    refine Ev.step (fun k => ?_) hh
    have hc := cL_len a i
    have e5 : wrap64 ((i : Int) + 5) = ((i + 5 : Nat) : Int) := by rw [w64 (by omega) (by omega)]; rfl
    have e10 : wrap64 ((i : Int) + 10) = ((i + 10 : Nat) : Int) := by rw [w64 (by omega) (by omega)]; rfl
    have e15 : wrap64 ((i : Int) + 15) = ((i + 15 : Nat) : Int) := by rw [w64 (by omega) (by omega)]; rfl
    have e20 : wrap64 ((i : Int) + 20) = ((i + 20 : Nat) : Int) := by rw [w64 (by omega) (by omega)]; rfl
    simp only [spec_l07Round.l0, e5, e10, e15, e20]
    rw [if_pos (by omega), if_pos (by omega), if_pos (by omega), if_pos (by omega), if_pos (by omega), if_pos (by omega), if_pos (by omega), if_pos (by omega), if_pos (by omega), if_pos (by omega), if_pos (by omega), if_pos (by omega), w64s i (by omega), Int.toNat_natCast]
    rfl
  · refine Ev.step (f := fun k => spec_l07Round.l1 k a turnsV rc (thC a 25) (List.replicate 25 0) 0) (fun k => ?_) (mix_ev a hl ha rc)
    simp only [spec_l07Round.l0]
    rw [if_neg (by omega), if_pos (by decide), cL_thC a hl ha]
end Go.Proofs.YthdjmbbkenbeiaaDoor.Pure
namespace Go.Proofs.YthdjmbbkenbeiaaDoor.Pure
open Go.RowKit Go.Proofs.YthdjmbbkenbeiaaDoorW.PrintWords Go.Proofs.YthdjmbbkenbeiaaDoorW.PrintLast Go.Proofs.YthdjmbbkenbeiaaDoorW.PrintMore Go.Proofs.YthdjmbbkenbeiaaDoor.P Go.Proofs.YthdjmbbkenbeiaaDoor.Kit
set_option linter.unusedVariables false
set_option linter.unusedSimpArgs false

theorem turns_ev : Ev (fun k => spec_l07Turns.f k) turnsV := Ev.of (fun k => spec_l07Turns.mono k) (k := 40) (by kernel_rfl)
def rcL : List Int := (List.range 24).map rcV
theorem rounds_ev : Ev (fun k => spec_l07Rounds.f k) rcL := Ev.of (fun k => spec_l07Rounds.mono k) (k := 300) (by kernel_rfl)
theorem rcL_rd (t : Nat) (h : t < 24) : rd rcL (t : Int) = rcV t := by
  rw [rd_get _ t (by unfold rcL; simpa using h)]
  simp only [rcL, List.getElem_map, List.getElem_range]
theorem rcL_len : rcL.length = 24 := by unfold rcL; simp
theorem roundV_w (a : List Int) (rc : Int) : ∀ x ∈ roundV a rc, W64 x := by
  intro x hx
  rcases List.mem_or_eq_of_mem_set hx with h | h
  · exact chi_w _ x h
  · rw [h]; exact W64.xor _ _
theorem permA_w (a : List Int) (ha : ∀ x ∈ a, W64 x) : ∀ t, ∀ x ∈ permA a t, W64 x
  | 0 => ha
  | t + 1 => roundV_w _ _
theorem perm_ev (a : List Int) (hl : a.length = 25) (ha : ∀ x ∈ a, W64 x) : Ev (fun k => spec_l07Permute.f k a) (impl_permuted.v a) := by
  unfold spec_l07Permute.f
  refine Ev.bind turns_ev (Ev.bind rounds_ev ?_)
  refine Ev.up (g := fun i k => spec_l07Permute.l0 k (permA a i) turnsV rcL (i : Int)) 24 ?_ ?_ 0 (Nat.zero_le _)
  · intro t ht hh
    have c1 : (t : Int) < 24 := by omega
    have c2 : (0 : Int) ≤ (t : Int) := by omega
    have c3 : (t : Int) < (rcL.length : Int) := by rw [rcL_len]; omega
    have c4 := w64s t (by omega)
    refine Ev.step (f := fun k => (spec_l07Round.f k (permA a t) turnsV (rcV t)).bind fun u => spec_l07Permute.l0 k u turnsV rcL ((t + 1 : Nat) : Int)) (fun k => ?_) ?_
    · simp only [spec_l07Permute.l0]
      rw [if_pos c1, if_pos c2, if_pos c3, c4, rcL_rd t ht]
    · exact Ev.bind (round_ev _ (permA_len a t hl) (permA_w a ha t) _) hh
  · refine Ev.step (f := fun _ => some (impl_permuted.v a)) (fun k => ?_) (Ev.now _)
    simp only [spec_l07Permute.l0]
    rw [if_neg (by omega)]
    rfl
/-- The number of n bytes, the lowest first. -/
def pb (f : Nat → Int) : Nat → Int
  | 0 => 0
  | j + 1 => pb f j + f j * ((2 ^ (8 * j) : Nat) : Int)
theorem pb_in (f : Nat → Int) (hf : ∀ q, 0 ≤ f q ∧ f q ≤ 255) : ∀ n, 0 ≤ pb f n ∧ pb f n < ((2 ^ (8 * n) : Nat) : Int)
  | 0 => by simp [pb]
  | n + 1 => by
    have ih := pb_in f hf n
    have hn := hf n
    simp only [pb]
    have e : 2 ^ (8 * (n + 1)) = 256 * 2 ^ (8 * n) := by rw [Nat.mul_add, Nat.pow_add, Nat.mul_comm]
    rw [e]
    generalize 2 ^ (8 * n) = A at ih ⊢
    have h1 : f n * (A : Int) ≤ 255 * (A : Int) := Int.mul_le_mul_of_nonneg_right hn.2 (by omega)
    have h2 : 0 ≤ f n * (A : Int) := Int.mul_nonneg hn.1 (by omega)
    generalize f n * (A : Int) = z at h1 h2 ⊢
    omega
theorem bt_in (s : ByteArray) (i : Int) : 0 ≤ bt s i ∧ bt s i ≤ 255 := by have := bt_range s i; omega
/-- The bytes of lane i. -/
def lb (s : ByteArray) (i : Nat) (q : Nat) : Int := bt s ((8 * i + q : Nat) : Int)
def laneV (s : ByteArray) (i : Nat) : Int := pb (lb s i) 8
theorem laneV_w (s : ByteArray) (i : Nat) : W64 (laneV s i) := by
  have h := pb_in (lb s i) (fun q => bt_in s _) 8
  exact ⟨h.1, h.2⟩
theorem lane_or (f : Nat → Int) (hf : ∀ q, 0 ≤ f q ∧ f q ≤ 255) (j : Nat) (hj : j < 8) : Go.bits .or .u64 (pb f j) (IntKind.u64.wrap (IntKind.u64.wrap (f j) * 2 ^ min (8 * j) 64)) = pb f (j + 1) := by
  have hb := hf j
  have h1 := pb_in f hf j
  have h9 := pb_in f hf (j + 1)
  have hA : 2 ^ (8 * j) ≤ 2 ^ 56 := Nat.pow_le_pow_right (by decide) (by omega)
  have hB : 2 ^ (8 * (j + 1)) ≤ 2 ^ 64 := Nat.pow_le_pow_right (by decide) (by omega)
  rw [Nat.min_eq_left (by omega), show (2 : Int) ^ (8 * j) = ((2 ^ (8 * j) : Nat) : Int) by rw [Int.natCast_pow]; rfl]
  simp only [pb] at h9 ⊢
  have hi : (2 : Int) ^ (8 * j) = ((2 ^ (8 * j) : Nat) : Int) := by rw [Int.natCast_pow]; rfl
  have e1 : IntKind.u64.wrap (f j) = f j := by rw [wrapU]; omega
  have h2 : 0 ≤ f j * ((2 ^ (8 * j) : Nat) : Int) := Int.mul_nonneg hb.1 (by omega)
  have h3 : f j * ((2 ^ (8 * j) : Nat) : Int) % ((2 ^ (8 * j) : Nat) : Int) = 0 := Int.mul_emod_left _ _
  rw [e1]
  have h4 : f j * ((2 ^ (8 * j) : Nat) : Int) < 18446744073709551616 := by
    generalize f j * ((2 ^ (8 * j) : Nat) : Int) = z at h2 h9 ⊢
    omega
  have e2 : IntKind.u64.wrap (f j * ((2 ^ (8 * j) : Nat) : Int)) = f j * ((2 ^ (8 * j) : Nat) : Int) := by
    rw [wrapU]
    generalize f j * ((2 ^ (8 * j) : Nat) : Int) = z at h2 h4 ⊢
    omega
  rw [e2]
  exact or64' (8 * j) _ _ ⟨h1.1, by omega⟩ (by rw [hi]; exact h1.2) ⟨h2, h4⟩ (by rw [hi]; exact h3)
theorem lanesA_rd (s : ByteArray) (i : Nat) (hi : i < 25) : ∀ m, m ≤ 200 → rd (lanesA s m) (i : Int) = pb (lb s i) (min 8 (m - 8 * i))
  | 0, _ => by
    rw [show min 8 (0 - 8 * i) = 0 by omega]
    exact rd_zeros 25 i
  | m + 1, h => by
    simp only [lanesA]
    rw [rd_set _ _ _ _ (by rw [lanesA_len]; omega), lanesA_rd s i hi m (by omega)]
    by_cases e : i = m / 8
    · rw [if_pos e, ← e, lanesA_rd s i hi m (by omega), show min 8 (m - 8 * i) = m % 8 by omega, show min 8 (m + 1 - 8 * i) = m % 8 + 1 by omega, ← lane_or (lb s i) (fun q => bt_in s _) (m % 8) (by omega)]
      unfold lb
      rw [show 8 * i + m % 8 = m by omega]
    · rw [if_neg e, show min 8 (m + 1 - 8 * i) = min 8 (m - 8 * i) by omega]
theorem lanesOf_eq (s : ByteArray) : impl_lanesOf.v s = (List.range 25).map (laneV s) := by
  unfold impl_lanesOf.v
  apply rd_ext (by rw [lanesA_len]; rfl)
  intro i hi
  rw [lanesA_len] at hi
  rw [lanesA_rd s i hi 200 (Nat.le_refl _), rd_get _ i (by simpa using hi), List.getElem_map, List.getElem_range, show min 8 (200 - 8 * i) = 8 by omega]
  rfl
/-- The same number, from its highest byte on. -/
def hv (f : Nat → Int) : Nat → Int
  | 0 => 0
  | n + 1 => hv f n * 256 + f (7 - n)
theorem hv_in (f : Nat → Int) (hf : ∀ q, 0 ≤ f q ∧ f q ≤ 255) : ∀ n, 0 ≤ hv f n ∧ hv f n < ((2 ^ (8 * n) : Nat) : Int)
  | 0 => by simp [hv]
  | n + 1 => by
    have ih := hv_in f hf n
    have hn := hf (7 - n)
    simp only [hv]
    have e : 2 ^ (8 * (n + 1)) = 256 * 2 ^ (8 * n) := by rw [Nat.mul_add, Nat.pow_add, Nat.mul_comm]
    rw [e]
    generalize 2 ^ (8 * n) = A at ih ⊢
    omega
theorem hv_pb (f : Nat → Int) : hv f 8 = pb f 8 := by
  simp only [hv, pb]
  simp only [Nat.reduceSub, Nat.reduceMul, Nat.reducePow]
  omega
theorem lanes_ev (s : ByteArray) (n : Nat) (hs : s.size = 8 * n) (hn : n ≤ 1000) : Ev (fun k => spec_l07Lanes.f k s) ((List.range n).map (laneV s)) := by
  unfold spec_l07Lanes.f
  refine Ev.up (g := fun i k => spec_l07Lanes.l0 k s ((List.range i).map (laneV s)) ((8 * i : Nat) : Int)) n ?_ ?_ 0 (Nat.zero_le _)
  · intro i hi hh
    refine Ev.step (f := fun k => spec_l07Lanes.l1 k s ((List.range i).map (laneV s)) ((8 * i : Nat) : Int) 0 7) (fun k => ?_) ?_
    · simp only [spec_l07Lanes.l0]
      rw [if_pos (by rw [w64 (by omega) (by omega)]; omega)]
    · refine Ev.up (g := fun j k => spec_l07Lanes.l1 k s ((List.range i).map (laneV s)) ((8 * i : Nat) : Int) (hv (lb s i) j) (7 - (j : Int))) 8 ?_ ?_ 0 (Nat.zero_le _)
      · intro j hj h2
        refine Ev.step (fun k => ?_) h2
        have e1 : wrap64 (((8 * i : Nat) : Int) + (7 - (j : Int))) = ((8 * i + (7 - j) : Nat) : Int) := by rw [w64 (by omega) (by omega)]; omega
        have e2 : wrap64 (7 - (j : Int) - 1) = 7 - ((j + 1 : Nat) : Int) := by rw [w64 (by omega) (by omega)]; omega
        have hA : 2 ^ (8 * j) ≤ 2 ^ 56 := Nat.pow_le_pow_right (by decide) (by omega)
        have h3 := hv_in (lb s i) (fun q => bt_in s _) j
        have h4 := bt_in s ((8 * i + (7 - j) : Nat) : Int)
        have c1 : 7 - (j : Int) ≥ 0 := by omega
        have c2 : (0 : Int) ≤ ((8 * i + (7 - j) : Nat) : Int) := by omega
        have c3 : ((8 * i + (7 - j) : Nat) : Int) < (s.size : Int) := by omega
        simp only [spec_l07Lanes.l1, e1, e2]
        rw [if_pos c1, if_pos c2, if_pos c3]
        congr 1
        simp only [hv]
        show _ = _ + bt s ((8 * i + (7 - j) : Nat) : Int)
        generalize hv (lb s i) j = z at h3 ⊢
        generalize bt s ((8 * i + (7 - j) : Nat) : Int) = b at h4 ⊢
        rw [wrapU, wrapU, wrapU]
        omega
      · refine Ev.step (fun k => ?_) hh
        simp only [spec_l07Lanes.l1]
        rw [if_neg (by omega), if_pos (by simp; omega), hv_pb, w64 (by omega) (by omega), List.range_succ, List.map_append]
        rfl
  · refine Ev.step (f := fun _ => some ((List.range n).map (laneV s))) (fun k => ?_) (Ev.now _)
    simp only [spec_l07Lanes.l0]
    rw [if_neg (by rw [w64 (by omega) (by omega)]; omega)]
/-- The byte m of lanes. -/
def laneB (xs : List Int) (m : Nat) : Int := rd xs ((m / 8 : Nat) : Int) / 2 ^ (8 * (m % 8)) % 256
theorem textA_rd (xs : List Int) (i : Nat) : ∀ m, m ≤ 200 → rd (textA xs m) (i : Int) = if i < m then laneB xs i else 0
  | 0, _ => by rw [if_neg (by omega)]; exact rd_zeros 200 i
  | m + 1, h => by
    simp only [textA]
    rw [rd_set _ _ _ _ (by rw [textA_len]; omega), textA_rd xs i m (by omega)]
    by_cases e : i = m
    · subst e
      rw [if_pos rfl, if_pos (by omega)]
      rfl
    · rw [if_neg e]
      by_cases e2 : i < m
      · rw [if_pos e2, if_pos (by omega)]
      · rw [if_neg e2, if_neg (by omega)]
theorem textA_eq (xs : List Int) : textA xs 200 = (List.range 200).map (laneB xs) := by
  apply rd_ext (by rw [textA_len]; simp)
  intro i hi
  rw [textA_len] at hi
  rw [textA_rd xs i 200 (Nat.le_refl _), if_pos hi, rd_get _ i (by simpa using hi), List.getElem_map, List.getElem_range]
theorem bytes_ev (xs : List Int) (hx : ∀ x ∈ xs, W64 x) (hl : xs.length ≤ 1000) : Ev (fun k => spec_l07Bytes.f k xs) (strOfNums ((List.range (8 * xs.length)).map (laneB xs))) := by
  unfold spec_l07Bytes.f
  refine Ev.up (g := fun i k => spec_l07Bytes.l0 k xs ((List.range (8 * i)).map (laneB xs)) (i : Int)) xs.length ?_ ?_ 0 (Nat.zero_le _)
  · intro i hi hh
    have hw := rd_in hx i hi
    refine Ev.step (f := fun k => spec_l07Bytes.l1 k xs ((List.range (8 * i + 0)).map (laneB xs)) (i : Int) (rd xs (i : Int) / 2 ^ (8 * 0)) ((0 : Nat) : Int)) (fun k => ?_) ?_
    · simp only [spec_l07Bytes.l0]
      rw [if_pos (by omega), if_pos (by omega), Nat.mul_zero, Int.pow_zero, Int.ediv_one]
      rfl
    · refine Ev.up (g := fun j k => spec_l07Bytes.l1 k xs ((List.range (8 * i + j)).map (laneB xs)) (i : Int) (rd xs (i : Int) / 2 ^ (8 * j)) (j : Int)) 8 ?_ ?_ 0 (Nat.zero_le _)
      · intro j hj h2
        refine Ev.step (fun k => ?_) h2
        have hA : (0 : Int) < 2 ^ (8 * j) := Int.pow_pos (by decide)
        have h3 : 0 ≤ rd xs (i : Int) / 2 ^ (8 * j) := Int.ediv_nonneg hw.1 (by omega)
        have h4 : rd xs (i : Int) / 2 ^ (8 * j) ≤ rd xs (i : Int) := Int.ediv_le_self _ hw.1
        have h5 := hw.2
        have e1 : rd xs (i : Int) / 2 ^ (8 * j) / 256 = rd xs (i : Int) / 2 ^ (8 * (j + 1)) := by
          rw [Int.ediv_ediv_of_nonneg (by omega), Nat.mul_add, Int.pow_add]; rfl
        have e3 : laneB xs (8 * i + j) = rd xs (i : Int) / 2 ^ (8 * j) % 256 := by
          unfold laneB
          rw [show (8 * i + j) / 8 = i by omega, show (8 * i + j) % 8 = j by omega]
        have e2 : (List.range (8 * i + (j + 1))).map (laneB xs) = (List.range (8 * i + j)).map (laneB xs) ++ [rd xs (i : Int) / 2 ^ (8 * j) % 256] := by
          rw [show 8 * i + (j + 1) = 8 * i + j + 1 from rfl, List.range_succ, List.map_append, List.map_singleton, e3]
        simp only [spec_l07Bytes.l1]
        rw [if_pos (by omega), if_pos (by simp; omega), w64s j (by omega), e2, ← e1]
        generalize rd xs (i : Int) / 2 ^ (8 * j) = z at h3 h4 ⊢
        rw [Int.tdiv_eq_ediv_of_nonneg h3, Int.tmod_eq_emod_of_nonneg h3, wrapU]
        congr 1
        · congr 2; omega
        · omega
      · refine Ev.step (fun k => ?_) hh
        simp only [spec_l07Bytes.l1]
        rw [if_neg (by omega), w64s i (by omega), show 8 * i + 8 = 8 * (i + 1) by omega]
  · refine Ev.step (f := fun _ => some (strOfNums ((List.range (8 * xs.length)).map (laneB xs)))) (fun k => ?_) (Ev.now _)
    simp only [spec_l07Bytes.l0]
    rw [if_neg (by omega)]
theorem text_ev (xs : List Int) (hx : ∀ x ∈ xs, W64 x) (hl : xs.length = 25) : Ev (fun k => spec_l07Bytes.f k xs) (impl_text.v xs) := by
  have h := bytes_ev xs hx (by omega)
  rw [hl, ← textA_eq] at h
  exact h
theorem lanesOf_w (s : ByteArray) : ∀ x ∈ impl_lanesOf.v s, W64 x := by
  rw [lanesOf_eq]
  intro x hx
  obtain ⟨i, _, rfl⟩ := List.mem_map.mp hx
  exact laneV_w s i
theorem lanesOf_len (s : ByteArray) : (impl_lanesOf.v s).length = 25 := lanesA_len s 200
theorem permuted_w (a : List Int) (ha : ∀ x ∈ a, W64 x) : ∀ x ∈ impl_permuted.v a, W64 x := permA_w a ha 24
theorem permute_ev (s : ByteArray) (hs : s.size = 200) : Ev (fun k => spec_Permute.f k s) (permB s) := by
  unfold spec_Permute.f
  refine Ev.pos (by omega) ?_
  have h := lanes_ev s 25 (by omega) (by decide)
  rw [← lanesOf_eq] at h
  exact Ev.bind h (Ev.bind (perm_ev _ (lanesOf_len s) (lanesOf_w s)) (Ev.bind (text_ev _ (permuted_w _ (lanesOf_w s)) (permA_len _ 24 (lanesOf_len s))) (Ev.now _)))
end Go.Proofs.YthdjmbbkenbeiaaDoor.Pure
namespace Go.Proofs.YthdjmbbkenbeiaaDoor.Pure
open Go.RowKit Go.Proofs.YthdjmbbkenbeiaaDoorW.PrintWords Go.Proofs.YthdjmbbkenbeiaaDoorW.PrintLast Go.Proofs.YthdjmbbkenbeiaaDoorW.PrintMore Go.Proofs.YthdjmbbkenbeiaaDoor.P Go.Proofs.YthdjmbbkenbeiaaDoor.Kit
set_option linter.unusedVariables false
set_option linter.unusedSimpArgs false

def B8 (x : Int) : Prop := 0 ≤ x ∧ x ≤ 255
theorem B8.xor (a b : Int) : B8 (Go.bits .xor .u8 a b) := by
  show B8 (IntKind.u8.wrap (((BitVec.ofInt 8 a ^^^ BitVec.ofInt 8 b).toNat : Nat) : Int))
  rw [IntKind.wrap_u8]; unfold B8; omega
theorem xor8 (a b : Nat) (ha : a < 256) (hb : b < 256) : Go.bits .xor .u8 (a : Int) (b : Int) = ((a ^^^ b : Nat) : Int) := by
  show IntKind.u8.wrap (((BitVec.ofInt 8 (a : Int) ^^^ BitVec.ofInt 8 (b : Int)).toNat : Nat) : Int) = _
  have e1 : (BitVec.ofInt 8 (a : Int) ^^^ BitVec.ofInt 8 (b : Int)).toNat = a ^^^ b := by
    rw [BitVec.toNat_xor, BitVec.toNat_ofInt, BitVec.toNat_ofInt]
    congr 1 <;> omega
  rw [e1]
  have : a ^^^ b < 2 ^ 8 := Nat.xor_lt_two_pow ha hb
  rw [IntKind.wrap_u8]
  omega
/-- Numbers of two parts, turned part by part. -/
theorem xor_parts (k a b c d : Nat) (ha : a < 2 ^ k) (hc : c < 2 ^ k) : (a + b * 2 ^ k) ^^^ (c + d * 2 ^ k) = (a ^^^ c) + (b ^^^ d) * 2 ^ k := by
  have hp : 0 < 2 ^ k := Nat.pow_pos (by decide)
  have e1 : (a + b * 2 ^ k) % 2 ^ k = a := by rw [Nat.add_mul_mod_self_right, Nat.mod_eq_of_lt ha]
  have e2 : (c + d * 2 ^ k) % 2 ^ k = c := by rw [Nat.add_mul_mod_self_right, Nat.mod_eq_of_lt hc]
  have e3 : (a + b * 2 ^ k) / 2 ^ k = b := by rw [Nat.add_mul_div_right _ _ hp, Nat.div_eq_of_lt ha, Nat.zero_add]
  have e4 : (c + d * 2 ^ k) / 2 ^ k = d := by rw [Nat.add_mul_div_right _ _ hp, Nat.div_eq_of_lt hc, Nat.zero_add]
  have h := Nat.mod_add_div ((a + b * 2 ^ k) ^^^ (c + d * 2 ^ k)) (2 ^ k)
  rw [Nat.xor_mod_two_pow, Nat.xor_div_two_pow, e1, e2, e3, e4, Nat.mul_comm (2 ^ k)] at h
  exact h.symm
theorem pb_xor (f g : Nat → Int) (hf : ∀ q, 0 ≤ f q ∧ f q ≤ 255) (hg : ∀ q, 0 ≤ g q ∧ g q ≤ 255) : ∀ n, n ≤ 8 → pb (fun q => Go.bits .xor .u8 (f q) (g q)) n = Go.bits .xor .u64 (pb f n) (pb g n)
  | 0, _ => by
    simp only [pb]
    exact (xor_zero 0 ⟨by decide, by decide⟩).symm
  | n + 1, h => by
    have ih := pb_xor f g hf hg n (by omega)
    have a1 := pb_in f hf n
    have a2 := pb_in g hg n
    have b1 := pb_in f hf (n + 1)
    have b2 := pb_in g hg (n + 1)
    have c1 := hf n
    have c2 := hg n
    have hB : 2 ^ (8 * (n + 1)) ≤ 2 ^ 64 := Nat.pow_le_pow_right (by decide) (by omega)
    have hC : 2 ^ (8 * n) ≤ 2 ^ 64 := Nat.pow_le_pow_right (by decide) (by omega)
    simp only [pb] at b1 b2 ⊢
    rw [ih]
    clear ih
    obtain ⟨a, ea⟩ := Int.eq_ofNat_of_zero_le a1.1
    obtain ⟨c, ec⟩ := Int.eq_ofNat_of_zero_le a2.1
    obtain ⟨b, eb⟩ := Int.eq_ofNat_of_zero_le c1.1
    obtain ⟨d, ed⟩ := Int.eq_ofNat_of_zero_le c2.1
    rw [ea, eb] at b1 ⊢
    rw [ec, ed] at b2 ⊢
    rw [ea] at a1
    rw [ec] at a2
    rw [eb] at c1
    rw [ed] at c2
    rw [xor64 a c (by omega) (by omega), xor8 b d (by omega) (by omega), ← Int.natCast_mul, ← Int.natCast_mul, ← Int.natCast_mul, ← Int.natCast_add, ← Int.natCast_add, ← Int.natCast_add, xor64 _ _ ?_ ?_]
    · rw [xor_parts (8 * n) a b c d (by omega) (by omega)]
    · have := b1.2
      rw [← Int.natCast_mul, ← Int.natCast_add] at this
      omega
    · have := b2.2
      rw [← Int.natCast_mul, ← Int.natCast_add] at this
      omega
theorem pb_congr {f g : Nat → Int} : ∀ n, (∀ q, q < n → f q = g q) → pb f n = pb g n
  | 0, _ => rfl
  | n + 1, h => by
    simp only [pb]
    rw [pb_congr n (fun q hq => h q (by omega)), h n (by omega)]
theorem pb_pieces (x : Nat) : ∀ n, pb (fun q => (x : Int) / 2 ^ (8 * q) % 256) n = ((x % 2 ^ (8 * n) : Nat) : Int)
  | 0 => by simp [pb, Nat.mod_one]
  | n + 1 => by
    simp only [pb]
    rw [pb_pieces x n, show (2 : Int) ^ (8 * n) = ((2 ^ (8 * n) : Nat) : Int) by rw [Int.natCast_pow]; rfl, ← Int.natCast_ediv, Nat.mul_add, Nat.pow_add, show 2 ^ (8 * 1) = 256 from rfl, Nat.mod_mul]
    rw [Nat.mul_comm (2 ^ (8 * n)) (x / 2 ^ (8 * n) % 256), Int.natCast_add, Int.natCast_mul]
    rfl
/-- A lane, of its own bytes. -/
theorem pb_laneB (W : List Int) (i : Nat) (h : W64 (rd W (i : Int))) : pb (fun q => laneB W (8 * i + q)) 8 = rd W (i : Int) := by
  obtain ⟨x, hx⟩ := Int.eq_ofNat_of_zero_le h.1
  have h2 := h.2
  rw [hx] at h2
  rw [pb_congr (g := fun q => (x : Int) / 2 ^ (8 * q) % 256) 8 ?_, pb_pieces, hx, Nat.mod_eq_of_lt (by omega)]
  intro q hq
  unfold laneB
  rw [show (8 * i + q) / 8 = i by omega, show (8 * i + q) % 8 = q by omega, hx]
theorem laneB_in (W : List Int) (m : Nat) : B8 (laneB W m) := by unfold laneB B8; omega
theorem bt_rd (L : List Int) (hL : ∀ x ∈ L, B8 x) (j : Nat) (hj : j < L.length) : bt (strOfNums L) (j : Int) = rd L (j : Int) := by
  have h := rd_in hL j hj
  rw [rd_get L j hj] at h ⊢
  have hs : j < (strOfNums L).size := by rw [strOfNums_size]; exact hj
  rw [← bt_at (strOfNums L) (j : Int) (by simpa using hs)]
  simp only [Int.toNat_natCast]
  rw [strOfNums_get L j hs, UInt8.toNat_ofNat']
  unfold B8 at h
  omega
theorem bl_strOf (L : List Int) (hL : ∀ x ∈ L, B8 x) : bl (strOfNums L) = L := by
  apply rd_ext (by rw [bl_len, strOfNums_size])
  intro i hi
  rw [bl_len, strOfNums_size] at hi
  rw [← bt_rd L hL i hi, rd_get _ i (by rw [bl_len, strOfNums_size]; exact hi)]
  have hs : i < (strOfNums L).size := by rw [strOfNums_size]; exact hi
  rw [← bt_at (strOfNums L) (i : Int) (by simpa using hs)]
  simp [bl]
  rfl
theorem textA_in (W : List Int) : ∀ x ∈ textA W 200, B8 x := by
  rw [textA_eq]
  intro x hx
  obtain ⟨m, _, rfl⟩ := List.mem_map.mp hx
  exact laneB_in W m
theorem xorA_rd (st T : List Int) (o i : Nat) : ∀ n, n ≤ st.length → rd (xorA st T o n) (i : Int) = if i < n then Go.bits .xor .u8 (rd st (i : Int)) (rd T ((o + i : Nat) : Int)) else rd st (i : Int)
  | 0, _ => by rw [if_neg (by omega)]; rfl
  | n + 1, h => by
    simp only [xorA]
    rw [rd_set _ _ _ _ (by rw [xorA_len]; omega), xorA_rd st T o i n (by omega)]
    by_cases e : i = n
    · subst e
      rw [if_pos rfl, if_pos (by omega), xorA_rd st T o i i (by omega), if_neg (by omega)]
    · rw [if_neg e]
      by_cases e2 : i < n
      · rw [if_pos e2, if_pos (by omega)]
      · rw [if_neg e2, if_neg (by omega)]
theorem xorW_rd (st ls : List Int) (i : Nat) : ∀ n, n ≤ st.length → rd (xorW st ls n) (i : Int) = if i < n then Go.bits .xor .u64 (rd st (i : Int)) (rd ls (i : Int)) else rd st (i : Int)
  | 0, _ => by rw [if_neg (by omega)]; rfl
  | n + 1, h => by
    simp only [xorW]
    rw [rd_set _ _ _ _ (by rw [xorW_len]; omega), xorW_rd st ls i n (by omega)]
    by_cases e : i = n
    · subst e
      rw [if_pos rfl, if_pos (by omega), xorW_rd st ls i i (by omega), if_neg (by omega)]
    · rw [if_neg e]
      by_cases e2 : i < n
      · rw [if_pos e2, if_pos (by omega)]
      · rw [if_neg e2, if_neg (by omega)]
theorem rd_drop_take (T : List Int) (o n i : Nat) (hi : i < n) (h : o + n ≤ T.length) : rd ((T.drop o).take n) (i : Int) = rd T ((o + i : Nat) : Int) := by
  rw [rd_get _ i (by simp; omega), rd_get _ (o + i) (by omega)]
  simp
theorem block_in (T : List Int) (hT : ∀ x ∈ T, B8 x) (n : Nat) : ∀ x ∈ (T.drop (168 * n)).take 168, B8 x := fun x hx => hT x (List.mem_of_mem_drop (List.mem_of_mem_take hx))
/-- A state turned by a block: byte by byte or lane by lane. -/
theorem block_lanes (W T : List Int) (m : Nat) (hl : W.length = 25) (hw : ∀ x ∈ W, W64 x) (hT : ∀ x ∈ T, B8 x) (hm : 168 * m + 168 ≤ T.length) :
    impl_lanesOf.v (strOfNums (xorA (textA W 200) T (168 * m) 168)) = xorW W ((List.range 21).map (laneV (blockB T m))) 21 := by
  have hY : ∀ x ∈ xorA (textA W 200) T (168 * m) 168, B8 x := by
    refine mem_rd fun i hi => ?_
    rw [xorA_len, textA_len] at hi
    rw [xorA_rd _ _ _ _ 168 (by rw [textA_len]; decide)]
    split
    · exact B8.xor _ _
    · exact rd_in (textA_in W) i (by rw [textA_len]; exact hi)
  have hYl : (xorA (textA W 200) T (168 * m) 168).length = 200 := by rw [xorA_len, textA_len]
  have hbyte : ∀ j : Nat, j < 200 → bt (strOfNums (xorA (textA W 200) T (168 * m) 168)) (j : Int) = if j < 168 then Go.bits .xor .u8 (laneB W j) (rd T ((168 * m + j : Nat) : Int)) else laneB W j := by
    intro j hj
    rw [bt_rd _ hY j (by rw [hYl]; exact hj), xorA_rd _ _ _ _ 168 (by rw [textA_len]; decide), textA_rd W j 200 (Nat.le_refl _), if_pos hj]
  have hblk : ∀ j : Nat, j < 168 → bt (blockB T m) (j : Int) = rd T ((168 * m + j : Nat) : Int) := by
    intro j hj
    unfold blockB
    rw [bt_rd _ (block_in T hT m) j (by simp; omega), rd_drop_take T _ 168 j hj (by omega)]
  rw [lanesOf_eq]
  apply rd_ext (by rw [xorW_len, hl]; rfl)
  intro i hi
  have hi : i < 25 := by simpa using hi
  rw [xorW_rd _ _ _ 21 (by rw [hl]; decide), rd_get ((List.range 25).map _) i (by simpa using hi), List.getElem_map, List.getElem_range]
  have hwi := rd_in hw i (by rw [hl]; exact hi)
  by_cases h : i < 21
  · rw [if_pos h, rd_get ((List.range 21).map (laneV (blockB T m))) i (by simpa using h), List.getElem_map, List.getElem_range]
    unfold laneV
    rw [pb_congr (g := fun q => Go.bits .xor .u8 (laneB W (8 * i + q)) (lb (blockB T m) i q)) 8 ?_, pb_xor (fun q => laneB W (8 * i + q)) (lb (blockB T m) i) (fun q => laneB_in W _) (fun q => bt_in _ _) 8 (Nat.le_refl _), pb_laneB W i hwi]
    intro q hq
    unfold lb
    rw [hbyte _ (by omega), if_pos (by omega), hblk _ (by omega)]
  · unfold laneV
    rw [if_neg h, pb_congr (g := fun q => laneB W (8 * i + q)) 8 ?_, pb_laneB W i hwi]
    intro q hq
    unfold lb
    rw [hbyte _ (by omega), if_neg (by omega)]
/-- The lanes behind m blocks. -/
def stW (T : List Int) : Nat → List Int
  | 0 => List.replicate 25 0
  | m + 1 => impl_permuted.v (xorW (stW T m) ((List.range 21).map (laneV (blockB T m))) 21)
theorem xorW_w (st ls : List Int) (h : ∀ x ∈ st, W64 x) : ∀ n, ∀ x ∈ xorW st ls n, W64 x
  | 0 => h
  | n + 1 => by
    intro x hx
    simp only [xorW] at hx
    rcases List.mem_or_eq_of_mem_set hx with h2 | h2
    · exact xorW_w st ls h n x h2
    · rw [h2]; exact W64.xor _ _
theorem stW_ok (T : List Int) : ∀ m, (stW T m).length = 25 ∧ ∀ x ∈ stW T m, W64 x
  | 0 => ⟨by simp [stW], by
    intro x hx
    simp only [stW] at hx
    rw [List.eq_of_mem_replicate hx]
    exact ⟨by decide, by decide⟩⟩
  | m + 1 => by
    have ih := stW_ok T m
    have h1 : (xorW (stW T m) ((List.range 21).map (laneV (blockB T m))) 21).length = 25 := by rw [xorW_len]; exact ih.1
    have h2 := xorW_w (stW T m) ((List.range 21).map (laneV (blockB T m))) ih.2 21
    simp only [stW]
    generalize xorW (stW T m) ((List.range 21).map (laneV (blockB T m))) 21 = a at h1 h2 ⊢
    exact ⟨permA_len a 24 h1, permuted_w a h2⟩
theorem absS_eq (T : List Int) (hT : ∀ x ∈ T, B8 x) : ∀ m, 168 * m ≤ T.length → absS T m = textA (stW T m) 200
  | 0, _ => by
    simp only [absS, stW]
    apply rd_ext (by rw [textA_len, List.length_replicate])
    intro i hi
    rw [List.length_replicate] at hi
    rw [rd_zeros, textA_rd _ i 200 (Nat.le_refl _), if_pos hi]
    unfold laneB
    rw [rd_zeros]
    simp
  | m + 1, h => by
    simp only [absS, permB]
    rw [absS_eq T hT m (by omega), block_lanes _ T m (stW_ok T m).1 (stW_ok T m).2 hT (by omega)]
    unfold impl_text.v
    rw [bl_strOf _ (textA_in _)]
    rfl
theorem absW_ev (T : List Int) (hT : ∀ x ∈ T, B8 x) : ∀ m, 168 * m ≤ T.length → Ev (fun k => absW k T m) (stW T m)
  | 0, _ => Ev.now _
  | m + 1, h => by
    have hs : (blockB T m).size = 8 * 21 := by
      unfold blockB
      rw [strOfNums_size]
      simp
      omega
    have h1 := stW_ok T m
    have h2 := stW_ok T (m + 1)
    have hl : ((List.range 21).map (laneV (blockB T m))).length = 21 := by simp
    refine Ev.bind (absW_ev T hT m (by omega)) (Ev.bind (lanes_ev (blockB T m) 21 hs (by decide)) (Ev.pos ?_ ?_))
    · rw [hl, h1.1]; decide
    · rw [hl]
      have h3 := perm_ev (xorW (stW T m) ((List.range 21).map (laneV (blockB T m))) 21) (by rw [xorW_len]; exact h1.1) (xorW_w _ _ h1.2 21)
      simp only [stW] at h2 ⊢
      refine Ev.bind h3 (Ev.pos ?_ (Ev.now _))
      rw [h2.1]; decide
theorem padT_in (s : ByteArray) (c : Int) (hc : B8 c) : ∀ x ∈ padT s c, B8 x := by
  intro x hx
  unfold padT lastX at hx
  rcases List.mem_or_eq_of_mem_set hx with h | h
  · unfold padZ at h
    rw [List.mem_append, List.mem_append] at h
    rcases h with (h | h) | h
    · unfold bl at h
      obtain ⟨b, _, rfl⟩ := List.mem_map.mp h
      have := b.toNat_lt
      exact ⟨by omega, by omega⟩
    · rw [List.mem_singleton] at h; rw [h]; exact hc
    · rw [List.eq_of_mem_replicate h]; exact ⟨by decide, by decide⟩
  · rw [h]; exact B8.xor _ _
/-- The state that a text leaves. -/
def absV (s : ByteArray) : ByteArray := strOfNums (absS (padT s 31) ((padT s 31).length / 168))
theorem absV_size (s : ByteArray) : (absV s).size = 200 := by unfold absV; rw [strOfNums_size, absS_len]
theorem spec_absorb_ev (s : ByteArray) (hs : s.size ≤ 1000000000000) : Ev (fun k => spec_l07Absorb.f k s 168 31) (absV s) := by
  have hT := padT_in s 31 ⟨by decide, by decide⟩
  have hm : 168 * ((padT s 31).length / 168) ≤ (padT s 31).length := Nat.mul_div_le _ _
  unfold spec_l07Absorb.f
  refine Ev.pos ⟨rfl, hs⟩ (Ev.bind (absW_ev _ hT _ hm) ?_)
  unfold absV
  rw [absS_eq _ hT _ hm]
  exact text_ev _ (stW_ok _ _).2 (stW_ok _ _).1
theorem impl_absorb_ev (s : ByteArray) (hs : s.size ≤ 1000000000000) : Ev (fun k => impl_absorbed.f k s 168 31) (absV s) := by
  unfold impl_absorbed.f
  exact Ev.pos ⟨rfl, hs⟩ (Ev.now _)
end Go.Proofs.YthdjmbbkenbeiaaDoor.Pure
namespace Go.Proofs.YthdjmbbkenbeiaaDoor.Pure
open Go.RowKit Go.Proofs.YthdjmbbkenbeiaaDoorW.PrintWords Go.Proofs.YthdjmbbkenbeiaaDoorW.PrintLast Go.Proofs.YthdjmbbkenbeiaaDoorW.PrintMore Go.Proofs.YthdjmbbkenbeiaaDoor.P Go.Proofs.YthdjmbbkenbeiaaDoor.Kit
set_option linter.unusedVariables false
set_option linter.unusedSimpArgs false

theorem cat_empty (s : ByteArray) : (⟨#[]⟩ : ByteArray) ++ s = s := by
  apply bytes_ext
  simp [ByteArray.data_append]
theorem ext_size (s : ByteArray) (a n : Nat) (h : a + n ≤ s.size) : (s.extract a (a + n)).size = n := by
  rw [ByteArray.size_extract]; omega
theorem spec_take_in (s : ByteArray) (a n : Nat) (hs : s.size = 200) (hn : 0 < n) (h : a + n ≤ 168) : Ev (fun k => spec_StreamTake.f k s (a : Int) (n : Int)) (s, ((a + n : Nat) : Int), s.extract a (a + n)) := by
  unfold spec_StreamTake.f
  refine Ev.pos ⟨by omega, by omega, hs, by omega, by omega⟩ ?_
  rw [Int.toNat_natCast, Int.toNat_natCast]
  have hx := ext_size s a n (by omega)
  refine Ev.step (f := fun k => spec_StreamTake.l0 k n (s.extract a (a + n)) s (a + n)) (fun k => ?_) ?_
  · simp only [spec_StreamTake.l0]
    have e0 : (⟨#[]⟩ : ByteArray).size = 0 := rfl
    rw [if_pos (by rw [e0]; exact hn), if_neg (by omega), if_pos ⟨by omega, hs⟩, e0, Nat.sub_zero, Nat.min_eq_right (by omega), cat_empty]
  · refine Ev.step (f := fun _ => some (s, ((a + n : Nat) : Int), s.extract a (a + n))) (fun k => ?_) (Ev.now _)
    simp only [spec_StreamTake.l0]
    rw [if_neg (by omega)]
theorem spec_take_new (s : ByteArray) (n : Nat) (hs : s.size = 200) (hn : 0 < n) (h : n ≤ 168) : Ev (fun k => spec_StreamTake.f k s 168 (n : Int)) (permB s, (n : Int), (permB s).extract 0 n) := by
  unfold spec_StreamTake.f
  refine Ev.pos ⟨by omega, by omega, hs, by omega, by omega⟩ ?_
  rw [Int.toNat_natCast]
  have hp := permB_size s
  have hx := ext_size (permB s) 0 n (by omega)
  rw [Nat.zero_add] at hx
  refine Ev.step (f := fun k => (spec_Permute.f k s).bind fun t => if t.size = 200 then spec_StreamTake.l0 k n (t.extract 0 n) t n else none) (fun k => ?_) (Ev.bind (permute_ev s hs) (Ev.pos hp ?_))
  · simp only [spec_StreamTake.l0]
    have e0 : (⟨#[]⟩ : ByteArray).size = 0 := rfl
    rw [if_pos (by rw [e0]; exact hn), if_pos (by decide), e0, Nat.sub_zero, Nat.min_eq_right (by omega)]
    simp only [cat_empty]
  · refine Ev.step (f := fun _ => some (permB s, (n : Int), (permB s).extract 0 n)) (fun k => ?_) (Ev.now _)
    simp only [spec_StreamTake.l0]
    rw [if_neg (by omega)]
theorem impl_take_open (s : ByteArray) (a n : Nat) (r : ByteArray × Int × ByteArray) (hs : s.size = 200) (hn : n ≤ 168) (ha : a ≤ 168) (h : Ev (fun k => impl_StreamTake.l0 k (n : Int) (⟨#[]⟩ : ByteArray) s (a : Int)) r) : Ev (fun k => impl_StreamTake.f k s (a : Int) (n : Int)) r := by
  unfold impl_StreamTake.f
  have e1 : impl_in.f (n : Int) 0 4000 = some true := (some_in _ _ _).trans (by rw [decide_eq_true]; omega)
  have e2 : impl_in.f (a : Int) 0 168 = some true := (some_in _ _ _).trans (by rw [decide_eq_true]; omega)
  refine Ev.then e1 (Ev.pos rfl (Ev.pos (by omega) (Ev.then e2 ?_)))
  refine Ev.step (fun k => ?_) h
  simp only [impl_StreamTake.j0]
  rw [if_neg (by decide)]
theorem impl_take_in (s : ByteArray) (a n : Nat) (hs : s.size = 200) (hn : 0 < n) (h : a + n ≤ 168) : Ev (fun k => impl_StreamTake.f k s (a : Int) (n : Int)) (s, ((a + n : Nat) : Int), s.extract a (a + n)) := by
  refine impl_take_open s a n _ hs (by omega) (by omega) ?_
  have hx := ext_size s a n (by omega)
  have e0 : (⟨#[]⟩ : ByteArray).size = 0 := rfl
  have e1 : wrap64 ((n : Int) - ((⟨#[]⟩ : ByteArray).size : Int)) = (n : Int) := by rw [e0, w64 (by omega) (by omega)]; omega
  have e2 : wrap64 (168 - (a : Int)) = ((168 - a : Nat) : Int) := by rw [w64 (by omega) (by omega)]; omega
  have e3 : mn (n : Int) ((168 - a : Nat) : Int) = (n : Int) := by unfold mn; rw [if_neg (by omega)]
  have e4 : wrap64 ((a : Int) + (n : Int)) = ((a + n : Nat) : Int) := by rw [w64 (by omega) (by omega)]; omega
  refine Ev.step (f := fun k => impl_StreamTake.l0 k (n : Int) (s.extract a (a + n)) s ((a + n : Nat) : Int)) (fun k => ?_) ?_
  · simp only [impl_StreamTake.l0, e1, e2, e3, e4]
    rw [if_pos (by rw [e0]; omega), if_neg (by omega), if_pos (by omega), if_pos (by omega), if_pos (by omega), Int.toNat_natCast, Int.toNat_natCast, if_pos (by rw [e0, hx]; omega), cat_empty]
  · refine Ev.step (f := fun _ => some (s, ((a + n : Nat) : Int), s.extract a (a + n))) (fun k => ?_) (Ev.now _)
    simp only [impl_StreamTake.l0]
    rw [if_neg (by omega)]
theorem impl_take_new (s : ByteArray) (n : Nat) (hs : s.size = 200) (hn : 0 < n) (h : n ≤ 168) : Ev (fun k => impl_StreamTake.f k s 168 (n : Int)) (permB s, (n : Int), (permB s).extract 0 n) := by
  refine impl_take_open s 168 n _ hs (by omega) (by omega) ?_
  have hp := permB_size s
  have hx := ext_size (permB s) 0 n (by omega)
  rw [Nat.zero_add] at hx
  have e0 : (⟨#[]⟩ : ByteArray).size = 0 := rfl
  have e1 : wrap64 ((n : Int) - ((⟨#[]⟩ : ByteArray).size : Int)) = (n : Int) := by rw [e0, w64 (by omega) (by omega)]; omega
  have e3 : mn (n : Int) 168 = (n : Int) := by unfold mn; rw [if_neg (by omega)]
  have e4 : wrap64 (0 + (n : Int)) = (n : Int) := by rw [w64 (by omega) (by omega)]; omega
  refine Ev.step (f := fun k => impl_StreamTake.l0 k (n : Int) ((permB s).extract 0 n) (permB s) (n : Int)) (fun k => ?_) ?_
  · simp only [impl_StreamTake.l0, e1, e3, e4, permB_f s hs, Option.bind_some]
    rw [if_pos (by rw [e0]; omega), if_pos (by rfl), if_pos (by omega), if_pos (by omega), Int.toNat_natCast, if_pos (by rw [e0, hx]; omega), cat_empty]
  · refine Ev.step (f := fun _ => some (permB s, (n : Int), (permB s).extract 0 n)) (fun k => ?_) (Ev.now _)
    simp only [impl_StreamTake.l0]
    rw [if_neg (by omega)]
theorem spec_new_ev (s : ByteArray) (hs : s.size ≤ 1000000000000) : Ev (fun k => spec_StreamNew.f k s) (absV s, 0) := by
  unfold spec_StreamNew.f
  exact Ev.bind (spec_absorb_ev s hs) (Ev.now _)
theorem impl_new_ev (s : ByteArray) (hs : s.size ≤ 1000000000000) : Ev (fun k => impl_StreamNew.f k s) (absV s, 0) := by
  unfold impl_StreamNew.f
  exact Ev.bind (impl_absorb_ev s hs) (Ev.now _)
/-- The first n bytes that a text gives. -/
def shakeV (s : ByteArray) (n : Nat) : ByteArray := (absV s).extract 0 n
theorem spec_shake_ev (s : ByteArray) (hs : s.size ≤ 1000000000000) : Ev (fun k => spec_ShakeOf.f k s 128) (shakeV s 128, true) := by
  unfold spec_ShakeOf.f
  have h := spec_take_in (absV s) 0 128 (absV_size s) (by decide) (by decide)
  have e1 : spec_l01In.f 128 0 4000 = some true := by rfl
  exact Ev.then e1 (Ev.pos rfl (Ev.bind (spec_new_ev s hs) (Ev.bind h (Ev.now _))))
theorem impl_shake_ev (s : ByteArray) (hs : s.size ≤ 1000000000000) : Ev (fun k => impl_ShakeOf.f k s 128) (shakeV s 128, true) := by
  unfold impl_ShakeOf.f
  have h := impl_take_in (absV s) 0 128 (absV_size s) (by decide) (by decide)
  have e1 : impl_in.f 128 0 4000 = some true := by rfl
  exact Ev.then e1 (Ev.pos rfl (Ev.bind (impl_new_ev s hs) (Ev.bind h (Ev.now _))))
end Go.Proofs.YthdjmbbkenbeiaaDoor.Pure
namespace Go.Proofs.YthdjmbbkenbeiaaDoor.Pure
open Go.RowKit Go.Proofs.YthdjmbbkenbeiaaDoorW.PrintWords Go.Proofs.YthdjmbbkenbeiaaDoorW.PrintLast Go.Proofs.YthdjmbbkenbeiaaDoorW.PrintMore Go.Proofs.YthdjmbbkenbeiaaDoor.P Go.Proofs.YthdjmbbkenbeiaaDoor.Kit
set_option linter.unusedVariables false
set_option linter.unusedSimpArgs false

def oneB (n : Int) : ByteArray := strOfNums [n % 256]
theorem oneB_size (n : Int) : (oneB n).size = 1 := by simp [oneB, strOfNums_size]
theorem oneB_impl (n : Int) : impl_oneByte.f n = some (oneB n) := rfl
theorem oneB_spec (n : Int) : spec_l06Byte.f n = some (oneB n) := by
  have h := Int.mul_tdiv_add_tmod n 256
  have h1 := Int.tmod_lt_of_pos n (show (0 : Int) < 256 by decide)
  have h2 := Int.lt_tmod_of_pos n (show (0 : Int) < 256 by decide)
  have h3 : (Int.tmod n 256) % 256 = n % 256 := by omega
  unfold spec_l06Byte.f oneB
  split
  · rw [w64 (by omega) (by omega), show (Int.tmod n 256 + 256) % 256 = n % 256 by omega]
  · rw [h3]
/-- A coefficient of four bits. -/
def cb (v : Int) : Int := (v % 2 + v / 2 % 2 - v / 4 % 2 - v / 8 % 2 + 3329) % 3329
theorem cb_hi (b : Int) (h0 : 0 ≤ b) (h1 : b ≤ 255) : Int.tmod (wrap64 ((wrap64 ((wrap64 ((wrap64 ((Int.tmod (wrap64 (Int.tdiv (wrap64 b) 16)) 2) + (Int.tmod (wrap64 (Int.tdiv (wrap64 (Int.tdiv (wrap64 b) 16)) 2)) 2))) - (Int.tmod (wrap64 (Int.tdiv (wrap64 (Int.tdiv (wrap64 b) 16)) 4)) 2))) - (Int.tmod (wrap64 (Int.tdiv (wrap64 (Int.tdiv (wrap64 b) 16)) 8)) 2))) + 3329)) 3329 = cb (b / 16) := by
  have h : ((List.range 256).all fun n : Nat => decide (Int.tmod (wrap64 ((wrap64 ((wrap64 ((wrap64 ((Int.tmod (wrap64 (Int.tdiv (wrap64 (n : Int)) 16)) 2) + (Int.tmod (wrap64 (Int.tdiv (wrap64 (Int.tdiv (wrap64 (n : Int)) 16)) 2)) 2))) - (Int.tmod (wrap64 (Int.tdiv (wrap64 (Int.tdiv (wrap64 (n : Int)) 16)) 4)) 2))) - (Int.tmod (wrap64 (Int.tdiv (wrap64 (Int.tdiv (wrap64 (n : Int)) 16)) 8)) 2))) + 3329)) 3329 = cb ((n : Int) / 16))) = true := by kernel_rfl
  obtain ⟨n, rfl⟩ := Int.eq_ofNat_of_zero_le h0
  exact of_decide_eq_true (List.all_eq_true.mp h n (List.mem_range.mpr (by omega)))
theorem cb_lo (b : Int) (h0 : 0 ≤ b) (h1 : b ≤ 255) : Int.tmod (wrap64 ((wrap64 ((wrap64 ((wrap64 ((Int.tmod (wrap64 b) 2) + (Int.tmod (wrap64 (Int.tdiv (wrap64 b) 2)) 2))) - (Int.tmod (wrap64 (Int.tdiv (wrap64 b) 4)) 2))) - (Int.tmod (wrap64 (Int.tdiv (wrap64 b) 8)) 2))) + 3329)) 3329 = cb b := by
  have h : ((List.range 256).all fun n : Nat => decide (Int.tmod (wrap64 ((wrap64 ((wrap64 ((wrap64 ((Int.tmod (wrap64 (n : Int)) 2) + (Int.tmod (wrap64 (Int.tdiv (wrap64 (n : Int)) 2)) 2))) - (Int.tmod (wrap64 (Int.tdiv (wrap64 (n : Int)) 4)) 2))) - (Int.tmod (wrap64 (Int.tdiv (wrap64 (n : Int)) 8)) 2))) + 3329)) 3329 = cb (n : Int))) = true := by kernel_rfl
  obtain ⟨n, rfl⟩ := Int.eq_ofNat_of_zero_le h0
  exact of_decide_eq_true (List.all_eq_true.mp h n (List.mem_range.mpr (by omega)))
theorem cb_impl (b : Int) (m : Nat) (h0 : 0 ≤ b) (h1 : b ≤ 255) (hm : m < 2) : impl_modQ.f (wrap64 ((wrap64 ((wrap64 ((Go.bits .and .i64 (wrap64 (shr .u8 b (wrap64 (4 * (m : Int))))) 1) + (Go.bits .and .i64 ((wrap64 (shr .u8 b (wrap64 (4 * (m : Int))))) / 2) 1))) - (Go.bits .and .i64 ((wrap64 (shr .u8 b (wrap64 (4 * (m : Int))))) / 4) 1))) - (Go.bits .and .i64 ((wrap64 (shr .u8 b (wrap64 (4 * (m : Int))))) / 8) 1))) = some (cb (if m = 1 then b / 16 else b)) := by
  have h : ((List.range 256).all fun n : Nat => (List.range 2).all fun m : Nat => decide (impl_modQ.f (wrap64 ((wrap64 ((wrap64 ((Go.bits .and .i64 (wrap64 (shr .u8 (n : Int) (wrap64 (4 * (m : Int))))) 1) + (Go.bits .and .i64 ((wrap64 (shr .u8 (n : Int) (wrap64 (4 * (m : Int))))) / 2) 1))) - (Go.bits .and .i64 ((wrap64 (shr .u8 (n : Int) (wrap64 (4 * (m : Int))))) / 4) 1))) - (Go.bits .and .i64 ((wrap64 (shr .u8 (n : Int) (wrap64 (4 * (m : Int))))) / 8) 1))) = some (cb (if m = 1 then (n : Int) / 16 else (n : Int))))) = true := by kernel_rfl
  obtain ⟨n, rfl⟩ := Int.eq_ofNat_of_zero_le h0
  exact of_decide_eq_true (List.all_eq_true.mp (List.all_eq_true.mp h n (List.mem_range.mpr (by omega))) m (List.mem_range.mpr hm))
/-- The coefficient i of the bytes t. -/
def cbAt (t : ByteArray) (i : Nat) : Int := cb (if i % 2 = 1 then bt t ((i / 2 : Nat) : Int) / 16 else bt t ((i / 2 : Nat) : Int))
def smallL (t : ByteArray) : List Int := (List.range 256).map (cbAt t)
theorem smallL_len (t : ByteArray) : (smallL t).length = 256 := by unfold smallL; simp
theorem smallL_get (t : ByteArray) (i : Nat) (h : i < (smallL t).length) : (smallL t)[i] = cbAt t i := by
  simp only [smallL, List.getElem_map, List.getElem_range]
theorem spec_small_loop (t : ByteArray) (ht : t.size = 128) : Ev (fun k => spec_Small.l0 k ([] : List Int) t 0) (smallL t) := by
  have hl := smallL_len t
  refine Ev.up (g := fun i k => spec_Small.l0 k ((smallL t).take i) t (i : Int)) 256 ?_ ?_ 0 (Nat.zero_le _)
  · intro i hi hh
    have hv := smallL_get t i (by omega)
    rw [← take_snoc (smallL t) i (by omega), hv] at hh
    refine Ev.step (fun k => ?_) hh
    have e1 : wrap64 (Int.tdiv (i : Int) 2) = ((i / 2 : Nat) : Int) := by rw [Int.tdiv_eq_ediv_of_nonneg (by omega), w64 (by omega) (by omega)]; omega
    have hb := bt_range t ((i / 2 : Nat) : Int)
    have hlen : ((smallL t).take i).length = i := by rw [List.length_take, hl]; omega
    have e2 : Int.tmod (i : Int) 2 = ((i % 2 : Nat) : Int) := by rw [Int.tmod_eq_emod_of_nonneg (by omega)]; omega
    unfold cbAt
    simp only [spec_Small.l0, e1, e2]
    rw [if_pos (by omega), if_pos (by omega), if_pos (by omega)]
    by_cases hp : i % 2 = 1
    · rw [if_pos (by omega), if_pos hp, if_pos (by omega), cb_hi _ (by omega) (by omega), w64s i (by omega)]
    · rw [if_neg (by omega), if_neg hp, if_pos (by omega), cb_lo _ (by omega) (by omega), w64s i (by omega)]
  · refine Ev.step (f := fun _ => some (smallL t)) (fun k => ?_) (Ev.now _)
    simp only [spec_Small.l0]
    rw [if_neg (by omega), List.take_of_length_le (by omega)]
theorem impl_small_loop (t : ByteArray) (ht : t.size = 128) : Ev (fun k => impl_Small.l0 k t (List.replicate 256 0) 256 0) (smallL t) := by
  have hl := smallL_len t
  have e0 : (smallL t).take 0 ++ List.replicate ((smallL t).length - 0) 0 = List.replicate 256 0 := by rw [hl, List.take_zero, List.nil_append, Nat.sub_zero]
  rw [← e0]
  refine Ev.up (g := fun i k => impl_Small.l0 k t ((smallL t).take i ++ List.replicate ((smallL t).length - i) 0) 256 (i : Int)) 256 ?_ ?_ 0 (Nat.zero_le _)
  · intro i hi hh
    have hv := smallL_get t i (by omega)
    rw [← set_fill (smallL t) 0 i (by omega), hv] at hh
    refine Ev.step (fun k => ?_) hh
    have e1 : wrap64 (Int.tdiv (i : Int) 2) = ((i / 2 : Nat) : Int) := by rw [Int.tdiv_eq_ediv_of_nonneg (by omega), w64 (by omega) (by omega)]; omega
    have hb := bt_range t ((i / 2 : Nat) : Int)
    have hlen : ((smallL t).take i ++ List.replicate ((smallL t).length - i) 0).length = 256 := by rw [List.length_append, List.length_take, List.length_replicate, hl]; omega
    have e2 : Int.tmod (i : Int) 2 = ((i % 2 : Nat) : Int) := by rw [Int.tmod_eq_emod_of_nonneg (by omega)]; omega
    have e3 := cb_impl (bt t ((i / 2 : Nat) : Int)) (i % 2) (by omega) (by omega) (by omega)
    have c1 : (i : Int) < 256 := by omega
    have c2 : (0 : Int) ≤ ((i / 2 : Nat) : Int) := by omega
    have c3 : ((i / 2 : Nat) : Int) < (t.size : Int) := by omega
    have c4 : 0 ≤ wrap64 (4 * ((i % 2 : Nat) : Int)) := by rw [w64 (by omega) (by omega)]; omega
    have c5 : (0 : Int) ≤ (i : Int) := by omega
    have c6 : (i : Int) < (((smallL t).take i ++ List.replicate ((smallL t).length - i) 0).length : Int) := by rw [hlen]; omega
    have c7 := w64s i (by omega)
    unfold cbAt
    simp only [impl_Small.l0, e1, e2]
    rw [if_pos c1, if_pos c2, if_pos c3, if_pos c4, e3, Option.bind_some, if_pos c5, if_pos c6, c7, Int.toNat_natCast]
  · refine Ev.step (f := fun _ => some (smallL t)) (fun k => ?_) (Ev.now _)
    simp only [impl_Small.l0]
    rw [if_neg (by omega), List.take_of_length_le (by omega), hl, Nat.sub_self, List.replicate_zero, List.append_nil]
def smallV (s : ByteArray) (n : Int) : List Int := smallL (shakeV (s ++ oneB n) 128)
theorem smallV_len (s : ByteArray) (n : Int) : (smallV s n).length = 256 := smallL_len _
theorem shake_size (s : ByteArray) : (shakeV s 128).size = 128 := by
  unfold shakeV
  rw [ByteArray.size_extract, absV_size]
  omega
theorem spec_Small_ev (s : ByteArray) (n : Int) (hs : s.size ≤ 1048576) : Ev (fun k => spec_Small.f k s n) (smallV s n) := by
  unfold spec_Small.f
  have h1 := oneB_size n
  exact Ev.then (oneB_spec n) (Ev.pos (by omega) (Ev.bind (spec_shake_ev _ (by rw [ByteArray.size_append]; omega)) (spec_small_loop _ (shake_size _))))
theorem impl_Small_ev (s : ByteArray) (n : Int) (hs : s.size ≤ 1048576) : Ev (fun k => impl_Small.f k s n) (smallV s n) := by
  unfold impl_Small.f
  have h1 := oneB_size n
  refine Ev.then (oneB_impl n) (Ev.pos (by omega) (Ev.bind (impl_shake_ev _ (by rw [ByteArray.size_append]; omega)) (Ev.pos (by decide) (Ev.then (a := List.replicate 256 0) rfl ?_))))
  rw [List.length_replicate]
  exact impl_small_loop _ (shake_size _)
end Go.Proofs.YthdjmbbkenbeiaaDoor.Pure
namespace Go.Proofs.YthdjmbbkenbeiaaDoor.Pure
open Go.RowKit Go.Proofs.YthdjmbbkenbeiaaDoorW.PrintWords Go.Proofs.YthdjmbbkenbeiaaDoorW.PrintLast Go.Proofs.YthdjmbbkenbeiaaDoorW.PrintMore Go.Proofs.YthdjmbbkenbeiaaDoor.P Go.Proofs.YthdjmbbkenbeiaaDoor.Kit
set_option linter.unusedVariables false
set_option linter.unusedSimpArgs false

/-- A number taken in, where it is small enough and there is room. -/
def put (l : List Int) (v : Int) : List Int := if v < 3329 ∧ l.length < 256 then l ++ [v] else l
theorem put_len (l : List Int) (v : Int) (h : l.length ≤ 256) : (put l v).length ≤ 256 := by
  unfold put
  split
  · rw [List.length_append, List.length_singleton]; omega
  · exact h
def lowV (b0 b1 : Int) : Int := b0 + 256 * (b1 % 16)
def highV (b1 b2 : Int) : Int := b1 / 16 + 16 * b2
/-- Three bytes taken in. -/
def take3 (l : List Int) (b0 b1 b2 : Int) : List Int := put (put l (lowV b0 b1)) (highV b1 b2)
theorem take3_len (l : List Int) (b0 b1 b2 : Int) (h : l.length ≤ 256) : (take3 l b0 b1 b2).length ≤ 256 := put_len _ _ (put_len _ _ h)
/-- The state of block m of the stream. -/
def blkS (s : ByteArray) : Nat → ByteArray
  | 0 => s
  | m + 1 => permB (blkS s m)
theorem blkS_size (s : ByteArray) (hs : s.size = 200) : ∀ m, (blkS s m).size = 200
  | 0 => hs
  | m + 1 => permB_size _
/-- Byte q of the round i. -/
def rb (s : ByteArray) (i q : Nat) : Int := bt (blkS s (i / 56)) ((3 * (i % 56) + q : Nat) : Int)
def roundU (s : ByteArray) (l : List Int) (i : Nat) : List Int := take3 l (rb s i 0) (rb s i 1) (rb s i 2)
theorem roundU_len (s : ByteArray) (l : List Int) (i : Nat) (h : l.length ≤ 256) : (roundU s l i).length ≤ 256 := take3_len _ _ _ _ h
/-- What n rounds more make, i of them gone. -/
def goU (s : ByteArray) : Nat → List Int → Nat → List Int
  | 0, l, i => l
  | n + 1, l, i => if l.length < 256 then goU s n (roundU s l i) (i + 1) else l
def uniL (s : ByteArray) : List Int := goU s 4000 [] 0
theorem goU_len (s : ByteArray) : ∀ n l i, l.length ≤ 256 → (goU s n l i).length ≤ 256
  | 0, l, i, h => h
  | n + 1, l, i, h => by
    simp only [goU]
    split
    · exact goU_len s n _ _ (roundU_len s l i h)
    · exact h
def fill (l : List Int) : List Int := l ++ List.replicate (256 - l.length) 0
theorem fill_len (l : List Int) (h : l.length ≤ 256) : (fill l).length = 256 := by
  unfold fill
  rw [List.length_append, List.length_replicate]; omega
theorem bt_ext (s : ByteArray) (a n j : Nat) (h : a + n ≤ s.size) (hj : j < n) : bt (s.extract a (a + n)) (j : Int) = bt s ((a + j : Nat) : Int) := by
  have hs : j < (s.extract a (a + n)).size := by rw [ext_size s a n h]; exact hj
  rw [← bt_at (s.extract a (a + n)) (j : Int) (by simpa using hs), ← bt_at s ((a + j : Nat) : Int) (by simp; omega)]
  simp only [Int.toNat_natCast]
  rw [ByteArray.getElem_extract]
/-- The reference fills up with zeros. -/
theorem spec_fill (l : List Int) (h : l.length ≤ 256) : Ev (fun k => spec_Uniform.l1 k l) (fill l) := by
  obtain ⟨d, hd⟩ : ∃ d, d = 256 - l.length := ⟨_, rfl⟩
  induction d generalizing l with
  | zero =>
    refine Ev.step (f := fun _ => some (fill l)) (fun k => ?_) (Ev.now _)
    simp only [spec_Uniform.l1]
    rw [if_neg (by omega)]
    unfold fill
    rw [← hd, List.replicate_zero, List.append_nil]
  | succ d ih =>
    have h1 := ih (l ++ [0]) (by rw [List.length_append, List.length_singleton]; omega) (by rw [List.length_append, List.length_singleton]; omega)
    have e : fill (l ++ [0]) = fill l := by
      unfold fill
      rw [List.length_append, List.length_singleton, show 256 - l.length = 256 - (l.length + 1) + 1 by omega, List.replicate_succ, List.append_assoc]
      rfl
    rw [e] at h1
    refine Ev.step (fun k => ?_) h1
    simp only [spec_Uniform.l1]
    rw [if_pos (by omega), if_pos (by omega)]
theorem low_spec (b0 b1 : Int) (h0 : 0 ≤ b0 ∧ b0 ≤ 255) (h1 : 0 ≤ b1 ∧ b1 ≤ 255) : wrap64 ((wrap64 b0) + (wrap64 (256 * (Int.tmod (wrap64 b1) 16)))) = lowV b0 b1 := by
  have e0 : wrap64 b0 = b0 := w64 (by omega) (by omega)
  have e1 : wrap64 b1 = b1 := w64 (by omega) (by omega)
  rw [e0, e1, Int.tmod_eq_emod_of_nonneg h1.1]
  have e2 : wrap64 (256 * (b1 % 16)) = 256 * (b1 % 16) := w64 (by omega) (by omega)
  rw [e2]
  exact w64 (by omega) (by omega)
theorem high_spec (b1 b2 : Int) (h1 : 0 ≤ b1 ∧ b1 ≤ 255) (h2 : 0 ≤ b2 ∧ b2 ≤ 255) : wrap64 ((wrap64 (Int.tdiv (wrap64 b1) 16)) + (wrap64 (16 * (wrap64 b2)))) = highV b1 b2 := by
  have e0 : wrap64 b2 = b2 := w64 (by omega) (by omega)
  have e1 : wrap64 b1 = b1 := w64 (by omega) (by omega)
  rw [e0, e1, Int.tdiv_eq_ediv_of_nonneg h1.1]
  have e2 : wrap64 (16 * b2) = 16 * b2 := w64 (by omega) (by omega)
  have e3 : wrap64 (b1 / 16) = b1 / 16 := w64 (by omega) (by omega)
  rw [e2, e3]
  exact w64 (by omega) (by omega)
theorem low_impl (b0 b1 : Int) (h0 : 0 ≤ b0 ∧ b0 ≤ 255) (h1 : 0 ≤ b1 ∧ b1 ≤ 255) : wrap64 ((wrap64 b0) + (wrap64 ((Int.tmod (wrap64 b1) 16) * 256))) = lowV b0 b1 := by
  rw [← low_spec b0 b1 h0 h1, Int.mul_comm]

theorem put_in (l : List Int) (v : Int) (h1 : v < 3329) (h2 : l.length < 256) : put l v = l ++ [v] := if_pos ⟨h1, h2⟩
theorem put_out (l : List Int) (v : Int) (h : ¬ (v < 3329 ∧ l.length < 256)) : put l v = l := if_neg h
/-- Where the reference stands ahead of round i. -/
def StS (s : ByteArray) (i : Nat) (x9 str : ByteArray) (at_ : Int) : Prop :=
  (i % 56 ≠ 0 ∧ x9 = (blkS s (i / 56)).extract 0 168 ∧ str = blkS s (i / 56) ∧ at_ = 168) ∨ (i = 0 ∧ str = s ∧ at_ = 0) ∨ (i % 56 = 0 ∧ 0 < i ∧ str = blkS s (i / 56 - 1) ∧ at_ = 168)
theorem StS.next (s : ByteArray) (i : Nat) : StS s (i + 1) ((blkS s (i / 56)).extract 0 168) (blkS s (i / 56)) 168 := by
  unfold StS
  by_cases h : (i + 1) % 56 = 0
  · exact Or.inr (Or.inr ⟨h, by omega, by rw [show (i + 1) / 56 - 1 = i / 56 by omega], rfl⟩)
  · exact Or.inl ⟨h, by rw [show (i + 1) / 56 = i / 56 by omega], by rw [show (i + 1) / 56 = i / 56 by omega], rfl⟩
theorem spec_three (k : Nat) (s : ByteArray) (hs : s.size = 200) (l : List Int) (hl : l.length < 256) (i : Nat) (hi : i < 4000) : spec_Uniform.j2 (k + 1) l ((blkS s (i / 56)).extract 0 168) (i : Int) ((3 * (i % 56) : Nat) : Int) (blkS s (i / 56)) 168 = spec_Uniform.l0 k (roundU s l i) ((blkS s (i / 56)).extract 0 168) ((i + 1 : Nat) : Int) (blkS s (i / 56)) 168 := by
  have hB := blkS_size s hs (i / 56)
  have hz : ((blkS s (i / 56)).extract 0 168).size = 168 := by rw [ByteArray.size_extract]; omega
  have w1 : wrap64 (((3 * (i % 56) : Nat) : Int) + 1) = ((3 * (i % 56) + 1 : Nat) : Int) := by rw [w64 (by omega) (by omega)]; rfl
  have w2 : wrap64 (((3 * (i % 56) : Nat) : Int) + 2) = ((3 * (i % 56) + 2 : Nat) : Int) := by rw [w64 (by omega) (by omega)]; rfl
  have w3 := w64s i (by omega)
  have c1 : (0 : Int) ≤ ((3 * (i % 56) : Nat) : Int) := by omega
  have c2 : ((3 * (i % 56) : Nat) : Int) < (((blkS s (i / 56)).extract 0 168).size : Int) := by rw [hz]; omega
  have c3 : (0 : Int) ≤ ((3 * (i % 56) + 1 : Nat) : Int) := by omega
  have c4 : ((3 * (i % 56) + 1 : Nat) : Int) < (((blkS s (i / 56)).extract 0 168).size : Int) := by rw [hz]; omega
  have c5 : (0 : Int) ≤ ((3 * (i % 56) + 2 : Nat) : Int) := by omega
  have c6 : ((3 * (i % 56) + 2 : Nat) : Int) < (((blkS s (i / 56)).extract 0 168).size : Int) := by rw [hz]; omega
  have c7 : l.length < 17592186044416 := by omega
  have c8 : (l.length : Int) < 256 := by omega
  have hb : ∀ q, q < 3 → bt ((blkS s (i / 56)).extract 0 168) ((3 * (i % 56) + q : Nat) : Int) = rb s i q := by
    intro q hq
    have := bt_ext (blkS s (i / 56)) 0 168 (3 * (i % 56) + q) (by omega) (by omega)
    rw [Nat.zero_add, Nat.zero_add] at this
    exact this
  have r0 : 0 ≤ rb s i 0 ∧ rb s i 0 ≤ 255 := bt_in _ _
  have r1 : 0 ≤ rb s i 1 ∧ rb s i 1 ≤ 255 := bt_in _ _
  have r2 : 0 ≤ rb s i 2 ∧ rb s i 2 ≤ 255 := bt_in _ _
  have e0 : bt ((blkS s (i / 56)).extract 0 168) ((3 * (i % 56) : Nat) : Int) = rb s i 0 := hb 0 (by decide)
  have e1 := hb 1 (by decide)
  have e2 := hb 2 (by decide)
  simp only [spec_Uniform.j2, w1, w2, w3, e0, e1, e2]
  rw [if_pos c1, if_pos c2, if_pos c3, if_pos c4, if_pos c5, if_pos c6, low_spec _ _ r0 r1, high_spec _ _ r1 r2]
  clear e0 e1 e2 r0 r1 r2 hb w1 w2 w3 c1 c2 c3 c4 c5 c6 hz hB
  unfold roundU take3
  generalize lowV (rb s i 0) (rb s i 1) = v
  generalize highV (rb s i 1) (rb s i 2) = u
  by_cases hv : v < 3329
  · rw [if_pos hv, if_pos c7, put_in l v hv hl, Option.bind_some]
    by_cases hu : u < 3329
    · rw [if_pos hu]
      by_cases hq : (l ++ [v]).length < 256
      · rw [if_pos (by omega), if_pos (by omega), put_in _ u hu hq]
      · rw [if_neg (by omega), put_out _ u (by omega)]
    · rw [if_neg hu, put_out _ u (by omega)]
  · rw [if_neg hv, put_out l v (by omega)]
    by_cases hu : u < 3329
    · rw [if_pos hu, if_pos c8, if_pos c7, put_in _ u hu hl]
    · rw [if_neg hu, put_out _ u (by omega)]
theorem spec_round (s : ByteArray) (hs : s.size = 200) (l : List Int) (hl : l.length < 256) (i : Nat) (hi : i < 4000) (x9 str : ByteArray) (a : Int) (h : StS s i x9 str a) (r : List Int)
    (hr : Ev (fun k => spec_Uniform.l0 k (roundU s l i) ((blkS s (i / 56)).extract 0 168) ((i + 1 : Nat) : Int) (blkS s (i / 56)) 168) r) : Ev (fun k => spec_Uniform.j1 k l x9 (i : Int) true str a) r := by
  have e1 : wrap64 (Int.tmod (i : Int) 56 * 3) = ((3 * (i % 56) : Nat) : Int) := by
    rw [Int.tmod_eq_emod_of_nonneg (by omega), w64 (by omega) (by omega)]; omega
  have h3 : Ev (fun k => spec_Uniform.j2 k l ((blkS s (i / 56)).extract 0 168) (i : Int) ((3 * (i % 56) : Nat) : Int) (blkS s (i / 56)) 168) r := Ev.step (fun k => spec_three k s hs l hl i hi) hr
  rcases h with ⟨h1, rfl, rfl, rfl⟩ | h
  · refine Ev.step (fun k => ?_) h3
    simp only [spec_Uniform.j1, e1]
    rw [if_pos trivial, if_neg (by omega)]
  · have hz : i % 56 = 0 := by omega
    have ht : Ev (fun k => spec_StreamTake.f k str a 168) (blkS s (i / 56), 168, (blkS s (i / 56)).extract 0 168) := by
      rcases h with ⟨rfl, rfl, rfl⟩ | ⟨_, hp, rfl, rfl⟩
      · exact spec_take_in str 0 168 hs (by decide) (by decide)
      · have := spec_take_new (blkS s (i / 56 - 1)) 168 (blkS_size s hs _) (by decide) (by decide)
        have e : permB (blkS s (i / 56 - 1)) = blkS s (i / 56) := by
          obtain ⟨m, hm⟩ : ∃ m, i / 56 = m + 1 := ⟨i / 56 - 1, by omega⟩
          rw [hm]; rfl
        rw [e] at this
        exact this
    refine Ev.step (f := fun k => (spec_StreamTake.f k str a 168).bind fun bt249 => spec_Uniform.j2 k l bt249.2.2 (i : Int) ((3 * (i % 56) : Nat) : Int) bt249.1 bt249.2.1) (fun k => ?_) (Ev.bind ht h3)
    simp only [spec_Uniform.j1, e1]
    rw [if_pos trivial, if_pos (by omega)]
theorem spec_rounds (s : ByteArray) (hs : s.size = 200) : ∀ n l i x9 str a, n + i = 4000 → l.length ≤ 256 → StS s i x9 str a → Ev (fun k => spec_Uniform.l0 k l x9 (i : Int) str a) (fill (goU s n l i))
  | 0, l, i, x9, str, a, hn, hl, h => by
    refine Ev.step (f := fun k => spec_Uniform.j1 k l x9 (i : Int) false str a) (fun k => ?_) (Ev.step (fun k => ?_) (spec_fill l hl))
    · simp only [spec_Uniform.l0]
      rw [if_neg (by omega)]
    · simp only [spec_Uniform.j1]
      rw [if_neg (by decide)]
  | n + 1, l, i, x9, str, a, hn, hl, h => by
    simp only [goU]
    by_cases hq : l.length < 256
    · rw [if_pos hq]
      have ih := spec_rounds s hs n (roundU s l i) (i + 1) _ _ 168 (by omega) (roundU_len s l i hl) (StS.next s i)
      refine Ev.step (fun k => ?_) (spec_round s hs l hq i (by omega) x9 str a h _ ih)
      simp only [spec_Uniform.l0]
      rw [if_pos (by omega), decide_eq_true (by omega)]
    · rw [if_neg hq]
      refine Ev.step (f := fun k => spec_Uniform.j1 k l x9 (i : Int) false str a) (fun k => ?_) (Ev.step (fun k => ?_) (spec_fill l hl))
      · simp only [spec_Uniform.l0]
        rw [if_pos (by omega), decide_eq_false (by omega)]
      · simp only [spec_Uniform.j1]
        rw [if_neg (by decide)]
/-- Where the program stands ahead of round i. -/
def StI (s : ByteArray) (i : Nat) (str : ByteArray) (at_ : Int) : Prop :=
  (i % 56 ≠ 0 ∧ str = blkS s (i / 56) ∧ at_ = ((3 * (i % 56) : Nat) : Int)) ∨ (i = 0 ∧ str = s ∧ at_ = 0) ∨ (i % 56 = 0 ∧ 0 < i ∧ str = blkS s (i / 56 - 1) ∧ at_ = 168)
theorem StI.next (s : ByteArray) (i : Nat) : StI s (i + 1) (blkS s (i / 56)) ((3 * (i % 56) + 3 : Nat) : Int) := by
  unfold StI
  by_cases h : (i + 1) % 56 = 0
  · exact Or.inr (Or.inr ⟨h, by omega, by rw [show (i + 1) / 56 - 1 = i / 56 by omega], by omega⟩)
  · exact Or.inl ⟨h, by rw [show (i + 1) / 56 = i / 56 by omega], by omega⟩
theorem fill_set (l : List Int) (v : Int) (h : l.length < 256) : (fill l).set l.length v = fill (l ++ [v]) := by
  unfold fill
  rw [List.set_append_right _ _ (Nat.le_refl _), Nat.sub_self, List.length_append, List.length_singleton, show 256 - l.length = 256 - (l.length + 1) + 1 by omega, List.replicate_succ, List.set_cons_zero, List.append_assoc]
  rfl
theorem impl_put (l y : List Int) (hl : l.length ≤ 256) (v : Int) (i : Int) (j : Nat) (hj : j < 2) (hy : y.length = 2) (hv : rd y (j : Int) = v) (str : ByteArray) (a : Int) (r : List Int)
    (h : Ev (fun k => impl_Uniform.l1 k (fill (put l v)) ((put l v).length : Int) i y 2 ((j + 1 : Nat) : Int) str a) r) : Ev (fun k => impl_Uniform.l1 k (fill l) (l.length : Int) i y 2 (j : Int) str a) r := by
  refine Ev.step (fun k => ?_) h
  have c1 : (j : Int) < 2 := by omega
  have c2 : (0 : Int) ≤ (j : Int) := by omega
  have c3 : (j : Int) < (y.length : Int) := by omega
  have w1 := w64s j (by omega)
  have w2 := w64s l.length (by omega)
  have hf := fill_len l hl
  simp only [impl_Uniform.l1, hv, w1, w2]
  rw [if_pos c1, if_pos c2, if_pos c3]
  by_cases h1 : v < 3329
  · rw [if_pos h1]
    by_cases h2 : l.length < 256
    · rw [if_pos (by omega), if_pos (by omega), if_pos (by omega), Int.toNat_natCast, put_in l v h1 h2, fill_set l v h2, List.length_append, List.length_singleton]
    · rw [if_neg (by omega), put_out l v (by omega)]
  · rw [if_neg h1, put_out l v (by omega)]
theorem impl_round (s : ByteArray) (hs : s.size = 200) (l : List Int) (hl : l.length < 256) (i : Nat) (hi : i < 4000) (str : ByteArray) (a : Int) (h : StI s i str a) (r : List Int)
    (hr : Ev (fun k => impl_Uniform.l0 k (fill (roundU s l i)) ((roundU s l i).length : Int) ((i + 1 : Nat) : Int) (blkS s (i / 56)) ((3 * (i % 56) + 3 : Nat) : Int)) r) : Ev (fun k => impl_Uniform.j1 k (fill l) (l.length : Int) (i : Int) true str a) r := by
  have hB := blkS_size s hs (i / 56)
  have ht : Ev (fun k => impl_StreamTake.f k str a 3) (blkS s (i / 56), ((3 * (i % 56) + 3 : Nat) : Int), (blkS s (i / 56)).extract (3 * (i % 56)) (3 * (i % 56) + 3)) := by
    rcases h with ⟨h1, rfl, rfl⟩ | ⟨rfl, rfl, rfl⟩ | ⟨hz, hp, rfl, rfl⟩
    · exact impl_take_in _ (3 * (i % 56)) 3 hB (by decide) (by omega)
    · exact impl_take_in str 0 3 hs (by decide) (by decide)
    · have := impl_take_new (blkS s (i / 56 - 1)) 3 (blkS_size s hs _) (by decide) (by decide)
      have e : permB (blkS s (i / 56 - 1)) = blkS s (i / 56) := by
        obtain ⟨m, hm⟩ : ∃ m, i / 56 = m + 1 := ⟨i / 56 - 1, by omega⟩
        rw [hm]; rfl
      rw [e] at this
      rw [hz]
      exact this
  have hz := ext_size (blkS s (i / 56)) (3 * (i % 56)) 3 (by omega)
  have hb : ∀ q : Nat, q < 3 → bt ((blkS s (i / 56)).extract (3 * (i % 56)) (3 * (i % 56) + 3)) (q : Int) = rb s i q := fun q hq => bt_ext (blkS s (i / 56)) (3 * (i % 56)) 3 q (by omega) hq
  have z0 : (0 : Int) < (((blkS s (i / 56)).extract (3 * (i % 56)) (3 * (i % 56) + 3)).size : Int) := by rw [hz]; decide
  have z1 : (1 : Int) < (((blkS s (i / 56)).extract (3 * (i % 56)) (3 * (i % 56) + 3)).size : Int) := by rw [hz]; decide
  have z2 : (2 : Int) < (((blkS s (i / 56)).extract (3 * (i % 56)) (3 * (i % 56) + 3)).size : Int) := by rw [hz]; decide
  have w3 := w64s i (by omega)
  have r0 : 0 ≤ rb s i 0 ∧ rb s i 0 ≤ 255 := bt_in _ _
  have r1 : 0 ≤ rb s i 1 ∧ rb s i 1 ≤ 255 := bt_in _ _
  have r2 : 0 ≤ rb s i 2 ∧ rb s i 2 ≤ 255 := bt_in _ _
  have e0 : bt ((blkS s (i / 56)).extract (3 * (i % 56)) (3 * (i % 56) + 3)) 0 = rb s i 0 := hb 0 (by decide)
  have e1 : bt ((blkS s (i / 56)).extract (3 * (i % 56)) (3 * (i % 56) + 3)) 1 = rb s i 1 := hb 1 (by decide)
  have e2 : bt ((blkS s (i / 56)).extract (3 * (i % 56)) (3 * (i % 56) + 3)) 2 = rb s i 2 := hb 2 (by decide)
  generalize hE : (blkS s (i / 56)).extract (3 * (i % 56)) (3 * (i % 56) + 3) = E at ht hz e0 e1 e2 z0 z1 z2
  refine Ev.step (f := fun k => (impl_StreamTake.f k str a 3).bind fun bt273 => (if 0 < (bt273.2.2.size : Int) then (if 1 < (bt273.2.2.size : Int) then (if 2 < (bt273.2.2.size : Int) then ((some (([wrap64 ((wrap64 (bt bt273.2.2 0)) + (wrap64 ((Int.tmod (wrap64 (bt bt273.2.2 1)) 16) * 256))), wrap64 ((wrap64 (Int.tdiv (wrap64 (bt bt273.2.2 1)) 16)) + (wrap64 (16 * (wrap64 (bt bt273.2.2 2)))))] : List Int) : List Int)).bind fun y277 => (impl_Uniform.l1 k (fill l) (l.length : Int) (i : Int) y277 (y277.length : Int) 0 bt273.1 bt273.2.1)) else (none)) else (none)) else (none))) (fun k => ?_) (Ev.bind ht ?_)
  · simp only [impl_Uniform.j1]
    rw [if_pos trivial]
  · refine Ev.pos z0 (Ev.pos z1 (Ev.pos z2 ?_))
    simp only [Option.bind_some, e0, e1, e2, low_impl _ _ r0 r1, high_spec _ _ r1 r2]
    clear e0 e1 e2 r0 r1 r2 hb hz z0 z1 z2 ht
    unfold roundU take3 at hr
    generalize lowV (rb s i 0) (rb s i 1) = v at hr ⊢
    generalize highV (rb s i 1) (rb s i 2) = u at hr ⊢
    refine impl_put l [v, u] (by omega) v (i : Int) 0 (by decide) rfl rfl _ _ r ?_
    refine impl_put (put l v) [v, u] (put_len _ _ (by omega)) u (i : Int) 1 (by decide) rfl rfl _ _ r ?_
    refine Ev.step (fun k => ?_) hr
    simp only [impl_Uniform.l1]
    rw [if_neg (by decide), w3]
theorem impl_rounds (s : ByteArray) (hs : s.size = 200) : ∀ n l i str a, n + i = 4000 → l.length ≤ 256 → StI s i str a → Ev (fun k => impl_Uniform.l0 k (fill l) (l.length : Int) (i : Int) str a) (fill (goU s n l i))
  | 0, l, i, str, a, hn, hl, h => by
    refine Ev.step (f := fun k => impl_Uniform.j1 k (fill l) (l.length : Int) (i : Int) false str a) (fun k => ?_) (Ev.step (f := fun _ => some (fill l)) (fun k => ?_) (Ev.now _))
    · simp only [impl_Uniform.l0]
      rw [if_neg (by omega)]
    · simp only [impl_Uniform.j1]
      rw [if_neg (by decide)]
  | n + 1, l, i, str, a, hn, hl, h => by
    simp only [goU]
    by_cases hq : l.length < 256
    · rw [if_pos hq]
      have ih := impl_rounds s hs n (roundU s l i) (i + 1) _ _ (by omega) (roundU_len s l i hl) (StI.next s i)
      refine Ev.step (fun k => ?_) (impl_round s hs l hq i (by omega) str a h _ ih)
      simp only [impl_Uniform.l0]
      rw [if_pos (by omega), decide_eq_true (by omega)]
    · rw [if_neg hq]
      refine Ev.step (f := fun k => impl_Uniform.j1 k (fill l) (l.length : Int) (i : Int) false str a) (fun k => ?_) (Ev.step (f := fun _ => some (fill l)) (fun k => ?_) (Ev.now _))
      · simp only [impl_Uniform.l0]
        rw [if_pos (by omega), decide_eq_false (by omega)]
      · simp only [impl_Uniform.j1]
        rw [if_neg (by decide)]
def uniV (s : ByteArray) (x y : Int) : List Int := fill (uniL (absV ((s ++ oneB x) ++ oneB y)))
theorem uniL_len (s : ByteArray) : (uniL s).length ≤ 256 := goU_len s 4000 [] 0 (by decide)
theorem uniV_len (s : ByteArray) (x y : Int) : (uniV s x y).length = 256 := fill_len _ (uniL_len _)
theorem spec_Uniform_ev (s : ByteArray) (x y : Int) (hs : s.size ≤ 1048576) : Ev (fun k => spec_Uniform.f k s x y) (uniV s x y) := by
  unfold spec_Uniform.f
  have h1 := oneB_size x
  have h2 := oneB_size y
  have h3 : (s ++ oneB x).size = s.size + 1 := by rw [ByteArray.size_append, h1]
  have h4 : ((s ++ oneB x) ++ oneB y).size = s.size + 2 := by rw [ByteArray.size_append, h2, h3]
  refine Ev.then (oneB_spec x) (Ev.pos (by omega) (Ev.then (oneB_spec y) (Ev.pos (by omega) (Ev.bind (spec_new_ev _ (by omega)) ?_))))
  exact spec_rounds _ (absV_size _) 4000 [] 0 _ _ 0 rfl (by decide) (Or.inr (Or.inl ⟨rfl, rfl, rfl⟩))
theorem impl_Uniform_ev (s : ByteArray) (x y : Int) (hs : s.size ≤ 1048576) : Ev (fun k => impl_Uniform.f k s x y) (uniV s x y) := by
  unfold impl_Uniform.f
  have h1 := oneB_size x
  have h2 := oneB_size y
  have h3 : (s ++ oneB x).size = s.size + 1 := by rw [ByteArray.size_append, h1]
  have h4 : ((s ++ oneB x) ++ oneB y).size = s.size + 2 := by rw [ByteArray.size_append, h2, h3]
  refine Ev.then (oneB_impl x) (Ev.pos (by omega) (Ev.then (oneB_impl y) (Ev.pos (by omega) (Ev.bind (impl_new_ev _ (by omega)) (Ev.pos (by decide) ?_)))))
  exact impl_rounds _ (absV_size _) 4000 [] 0 _ 0 rfl (by decide) (Or.inr (Or.inl ⟨rfl, rfl, rfl⟩))
end Go.Proofs.YthdjmbbkenbeiaaDoor.Pure
namespace Go.Proofs.YthdjmbbkenbeiaaDoor.Pure
open Go.RowKit Go.Proofs.YthdjmbbkenbeiaaDoorW.PrintWords Go.Proofs.YthdjmbbkenbeiaaDoorW.PrintLast Go.Proofs.YthdjmbbkenbeiaaDoorW.PrintMore Go.Proofs.YthdjmbbkenbeiaaDoor.P Go.Proofs.YthdjmbbkenbeiaaDoor.Kit
set_option linter.unusedVariables false
set_option linter.unusedSimpArgs false

def W32 (x : Int) : Prop := 0 ≤ x ∧ x < 4294967296
theorem W32.mod (x : Int) : W32 (x % 4294967296) := by unfold W32; omega
theorem W32.xor (a b : Int) : W32 (Go.bits .xor .u32 a b) := by
  show W32 (IntKind.u32.wrap (((BitVec.ofInt 32 a ^^^ BitVec.ofInt 32 b).toNat : Nat) : Int))
  rw [IntKind.wrap_u32']; exact W32.mod _
theorem W32.or (a b : Int) : W32 (Go.bits .or .u32 a b) := by
  show W32 (IntKind.u32.wrap (((BitVec.ofInt 32 a ||| BitVec.ofInt 32 b).toNat : Nat) : Int))
  rw [IntKind.wrap_u32']; exact W32.mod _
theorem wraps32 : ∀ n : Int, 0 ≤ n → n < 2 ^ 32 → IntKind.u32.wrap n = n := fun n h0 h1 => by rw [IntKind.wrap_u32']; omega
/-- Two words joined that share no bit. -/
theorem or_add (i : Nat) (x y : Int) (hx : W32 x) (hi : x % 2 ^ i = 0) (hy : W32 y) (hyi : y < 2 ^ i) : Go.bits .or .u32 x y = x + y :=
  bits_join .u32 32 (by decide) wraps32 i x y hx.1 hi (by have := hx.2; omega) hy.1 hyi (by have := hy.2; omega)
theorem not32 (e : Int) (h : W32 e) : Go.bits .xor .u32 (if IntKind.u32.signed = true then -1 else IntKind.u32.max) e = 4294967295 - e := by
  obtain ⟨n, rfl⟩ := Int.eq_ofNat_of_zero_le h.1
  have hn : n < 4294967296 := by have := h.2; omega
  show IntKind.u32.wrap (((BitVec.ofInt 32 4294967295 ^^^ BitVec.ofInt 32 (n : Int)).toNat : Nat) : Int) = _
  have h1 : (BitVec.ofInt 32 4294967295 ^^^ BitVec.ofInt 32 (n : Int)).toNat = 4294967295 - n := by
    have e1 : BitVec.ofInt 32 4294967295 = BitVec.allOnes 32 := by decide
    rw [e1, BitVec.allOnes_xor, BitVec.toNat_not, BitVec.toNat_ofInt]
    omega
  rw [h1, IntKind.wrap_u32']
  omega
theorem rot_eq (x : Int) (n : Nat) (h1 : 1 ≤ n) (h2 : n ≤ 31) (h : W32 x) : rot x n = x / 2 ^ n + (x % 2 ^ n) * 2 ^ (32 - n) := by
  obtain ⟨A, hA⟩ : ∃ A : Int, A = 2 ^ n := ⟨_, rfl⟩
  obtain ⟨B, hB⟩ : ∃ B : Int, B = 2 ^ (32 - n) := ⟨_, rfl⟩
  have hA0 : 0 < A := by rw [hA]; exact Int.pow_pos (by decide)
  have hB0 : 0 < B := by rw [hB]; exact Int.pow_pos (by decide)
  have hAB : B * A = 4294967296 := by
    rw [hA, hB, ← Int.pow_add, show 32 - n + n = 32 by omega]; rfl
  have hl : shl .u32 x ((32 - n : Nat) : Int) = (x % A) * B := by
    unfold shl
    rw [Int.toNat_natCast, Nat.min_eq_left (by show 32 - n ≤ 32; omega), IntKind.wrap_u32', ← hB, ← hAB, Int.mul_comm x B, Int.mul_emod_mul_of_pos _ _ hB0, Int.mul_comm]
  have hr : shr .u32 x (n : Int) = x / A := by
    unfold shr
    rw [Int.toNat_natCast, Nat.min_eq_left (by show n ≤ 32; omega), ← hA]
  have hm0 := Int.emod_nonneg x (Int.ne_of_gt hA0)
  have hm1 := Int.emod_lt_of_pos x hA0
  have hd0 : 0 ≤ x / A := Int.ediv_nonneg h.1 (Int.le_of_lt hA0)
  have hd1 : x / A < B := Int.ediv_lt_of_lt_mul hA0 (by rw [hAB]; exact h.2)
  have hmb : (x % A) * B < 4294967296 := by
    have h3 : (x % A + 1) * B ≤ A * B := Int.mul_le_mul_of_nonneg_right (by omega) (Int.le_of_lt hB0)
    rw [Int.mul_comm A B, hAB, Int.add_mul, Int.one_mul] at h3
    omega
  have hB1 : B ≤ 4294967296 := by
    have h3 : B * 1 ≤ B * A := Int.mul_le_mul_of_nonneg_left (by omega) (Int.le_of_lt hB0)
    rw [hAB, Int.mul_one] at h3; exact h3
  unfold rot
  rw [hl, hr, ← hA, ← hB, or_add (32 - n) _ _ ⟨Int.mul_nonneg hm0 (Int.le_of_lt hB0), hmb⟩ (by rw [← hB]; exact Int.mul_emod_left _ _) ⟨hd0, by omega⟩ (by rw [← hB]; exact hd1), Int.add_comm]
theorem rot_w (x : Int) (n : Nat) : W32 (rot x n) := W32.or _ _
theorem l05Right_eq (x : Int) (n : Nat) (a b : Int) (ha : a = 2 ^ n) (hb : b = 2 ^ (32 - n)) (h1 : 1 ≤ n) (h2 : n ≤ 31) (h : W32 x) : spec_l05Right.f x a b = some (rot x n) := by
  have hA0 : 0 < a := by rw [ha]; exact Int.pow_pos (by decide)
  have hr := rot_eq x n h1 h2 h
  have hw := rot_w x n
  rw [← ha, ← hb] at hr
  have hw1 := hw.1
  have hw2 := hw.2
  have hd0 : 0 ≤ x / a := Int.ediv_nonneg h.1 (Int.le_of_lt hA0)
  have hb0 : 0 ≤ b := by rw [hb]; exact Int.le_of_lt (Int.pow_pos (by decide))
  have hm0 : 0 ≤ x % a * b := Int.mul_nonneg (Int.emod_nonneg x (Int.ne_of_gt hA0)) hb0
  unfold spec_l05Right.f
  rw [if_neg (Int.ne_of_gt hA0), Int.tdiv_eq_ediv_of_nonneg h.1, Int.tmod_eq_emod_of_nonneg h.1]
  rw [hr] at hw1 hw2 ⊢
  congr 1
  rw [Int.emod_eq_of_lt hd0 (by omega), Int.emod_eq_of_lt hm0 (by omega), Int.emod_eq_of_lt hw1 hw2]
theorem l05S_last (x : Int) (n m : Nat) (a b c : Int) (ha : a = 2 ^ n) (hb : b = 2 ^ m) (hc : c ≠ 0) (ha2 : (Int.tdiv 2147483648 a % 4294967296) * 2 % 4294967296 = 2 ^ (32 - n)) (hb2 : (Int.tdiv 2147483648 b % 4294967296) * 2 % 4294967296 = 2 ^ (32 - m)) (hn : 1 ≤ n ∧ n ≤ 31) (hm : 1 ≤ m ∧ m ≤ 31) (hcx : 0 < c) (h : W32 x) :
    spec_l05S.f x a b c true = some (Go.bits .xor .u32 (Go.bits .xor .u32 (rot x n) (rot x m)) (x / c)) := by
  have ha0 : a ≠ 0 := by rw [ha]; exact Int.ne_of_gt (Int.pow_pos (by decide))
  have hb0 : b ≠ 0 := by rw [hb]; exact Int.ne_of_gt (Int.pow_pos (by decide))
  unfold spec_l05S.f
  rw [if_neg ha0, l05Right_eq x n a _ ha ha2 hn.1 hn.2 h]
  simp only [Option.bind_some]
  rw [if_neg hb0, l05Right_eq x m b _ hb hb2 hm.1 hm.2 h]
  simp only [Option.bind_some]
  rw [if_neg hc, if_pos trivial, Int.tdiv_eq_ediv_of_nonneg h.1]
  have h1 : 0 ≤ x / c := Int.ediv_nonneg h.1 (Int.le_of_lt hcx)
  have h2 : x / c ≤ x := Int.ediv_le_self _ h.1
  rw [Int.emod_eq_of_lt h1 (by have := h.2; omega)]
theorem l05S_three (x : Int) (n m q : Nat) (a b c : Int) (ha : a = 2 ^ n) (hb : b = 2 ^ m) (hc : c = 2 ^ q) (ha2 : (Int.tdiv 2147483648 a % 4294967296) * 2 % 4294967296 = 2 ^ (32 - n)) (hb2 : (Int.tdiv 2147483648 b % 4294967296) * 2 % 4294967296 = 2 ^ (32 - m)) (hc2 : (Int.tdiv 2147483648 c % 4294967296) * 2 % 4294967296 = 2 ^ (32 - q)) (hn : 1 ≤ n ∧ n ≤ 31) (hm : 1 ≤ m ∧ m ≤ 31) (hq : 1 ≤ q ∧ q ≤ 31) (h : W32 x) :
    spec_l05S.f x a b c false = some (Go.bits .xor .u32 (Go.bits .xor .u32 (rot x n) (rot x m)) (rot x q)) := by
  have ha0 : a ≠ 0 := by rw [ha]; exact Int.ne_of_gt (Int.pow_pos (by decide))
  have hb0 : b ≠ 0 := by rw [hb]; exact Int.ne_of_gt (Int.pow_pos (by decide))
  have hc0 : c ≠ 0 := by rw [hc]; exact Int.ne_of_gt (Int.pow_pos (by decide))
  unfold spec_l05S.f
  rw [if_neg ha0, l05Right_eq x n a _ ha ha2 hn.1 hn.2 h]
  simp only [Option.bind_some]
  rw [if_neg hb0, l05Right_eq x m b _ hb hb2 hm.1 hm.2 h]
  simp only [Option.bind_some]
  rw [if_neg hc0, if_neg (by decide), l05Right_eq x q c _ hc hc2 hq.1 hq.2 h]
  simp only [Option.bind_some]
theorem S_w1 (x : Int) (h : W32 x) : spec_l05S.f x 131072 524288 1024 true = some (Go.bits .xor .u32 (Go.bits .xor .u32 (rot x 17) (rot x 19)) (x / 1024)) :=
  l05S_last x 17 19 _ _ _ rfl rfl (by decide) rfl rfl (by decide) (by decide) (by decide) h
theorem S_w0 (x : Int) (h : W32 x) : spec_l05S.f x 128 262144 8 true = some (Go.bits .xor .u32 (Go.bits .xor .u32 (rot x 7) (rot x 18)) (x / 8)) :=
  l05S_last x 7 18 _ _ _ rfl rfl (by decide) rfl rfl (by decide) (by decide) (by decide) h
theorem S_e (x : Int) (h : W32 x) : spec_l05S.f x 64 2048 33554432 false = some (Go.bits .xor .u32 (Go.bits .xor .u32 (rot x 6) (rot x 11)) (rot x 25)) :=
  l05S_three x 6 11 25 _ _ _ rfl rfl rfl rfl rfl rfl (by decide) (by decide) (by decide) h
theorem S_a (x : Int) (h : W32 x) : spec_l05S.f x 4 8192 4194304 false = some (Go.bits .xor .u32 (Go.bits .xor .u32 (rot x 2) (rot x 13)) (rot x 22)) :=
  l05S_three x 2 13 22 _ _ _ rfl rfl rfl rfl rfl rfl (by decide) (by decide) (by decide) h

/-! the words of a block -/
def word (s : ByteArray) (i : Nat) : Int := bt s ((4 * i : Nat) : Int) * 16777216 + bt s ((4 * i + 1 : Nat) : Int) * 65536 + bt s ((4 * i + 2 : Nat) : Int) * 256 + bt s ((4 * i + 3 : Nat) : Int)
theorem word_w (s : ByteArray) (i : Nat) : W32 (word s i) := by
  have h0 := bt_range s ((4 * i : Nat) : Int)
  have h1 := bt_range s ((4 * i + 1 : Nat) : Int)
  have h2 := bt_range s ((4 * i + 2 : Nat) : Int)
  have h3 := bt_range s ((4 * i + 3 : Nat) : Int)
  unfold word W32
  omega
def wordL (s : ByteArray) (n : Nat) : List Int := (List.range n).map (word s)
theorem wordL_len (s : ByteArray) (n : Nat) : (wordL s n).length = n := by simp [wordL]
theorem wordL_succ (s : ByteArray) (n : Nat) : wordL s (n + 1) = wordL s n ++ [word s n] := by simp [wordL, List.range_succ]
theorem wordL_w (s : ByteArray) (n : Nat) : ∀ x ∈ wordL s n, W32 x := by
  intro x hx
  obtain ⟨i, _, rfl⟩ := List.mem_map.mp hx
  exact word_w s i
theorem spec_l05Word_eq (s : ByteArray) (i : Nat) (h : 4 * i + 4 ≤ s.size) (hs : s.size ≤ 4611686018427387904) : spec_l05Word.f s ((4 * i : Nat) : Int) = some (word s i) := by
  have e1 : wrap64 (((4 * i : Nat) : Int) + 1) = ((4 * i + 1 : Nat) : Int) := by rw [w64 (by omega) (by omega)]; rfl
  have e2 : wrap64 (((4 * i : Nat) : Int) + 2) = ((4 * i + 2 : Nat) : Int) := by rw [w64 (by omega) (by omega)]; rfl
  have e3 : wrap64 (((4 * i : Nat) : Int) + 3) = ((4 * i + 3 : Nat) : Int) := by rw [w64 (by omega) (by omega)]; rfl
  have h0 := bt_range s ((4 * i : Nat) : Int)
  have h1 := bt_range s ((4 * i + 1 : Nat) : Int)
  have h2 := bt_range s ((4 * i + 2 : Nat) : Int)
  have h3 := bt_range s ((4 * i + 3 : Nat) : Int)
  unfold spec_l05Word.f
  rw [e1, e2, e3, if_pos (by omega), if_pos (by omega), if_pos (by omega), if_pos (by omega), if_pos (by omega), if_pos (by omega), if_pos (by omega), if_pos (by omega)]
  unfold word
  congr 1
  generalize bt s ((4 * i : Nat) : Int) = b0 at *
  generalize bt s ((4 * i + 1 : Nat) : Int) = b1 at *
  generalize bt s ((4 * i + 2 : Nat) : Int) = b2 at *
  generalize bt s ((4 * i + 3 : Nat) : Int) = b3 at *
  clear e1 e2 e3
  omega
theorem spec_l05Words_ev (s : ByteArray) (n : Nat) (h : s.size = 4 * n) (hn : n ≤ 1000000) : Ev (fun k => spec_l05Words.f k s) (wordL s n) := by
  refine Ev.up (g := fun i k => spec_l05Words.l0 k s (wordL s i) ((4 * i : Nat) : Int)) n ?_ ?_ 0 (Nat.zero_le _)
  · intro i hi hh
    refine Ev.step (fun k => ?_) hh
    simp only [spec_l05Words.l0]
    have e4 : wrap64 (((4 * i : Nat) : Int) + 4) = ((4 * (i + 1) : Nat) : Int) := by rw [w64 (by omega) (by omega)]; omega
    rw [e4, if_pos (by omega), spec_l05Word_eq s i (by omega) (by omega)]
    simp only [Option.bind_some]
    rw [if_pos (by rw [wordL_len]; omega), wordL_succ]
  · refine Ev.step (f := fun _ => some (wordL s n)) (fun k => ?_) (Ev.now _)
    simp only [spec_l05Words.l0]
    have e4 : wrap64 (((4 * n : Nat) : Int) + 4) = ((4 * (n + 1) : Nat) : Int) := by rw [w64 (by omega) (by omega)]; omega
    rw [e4, if_neg (by omega)]
end Go.Proofs.YthdjmbbkenbeiaaDoor.Pure
namespace Go.Proofs.YthdjmbbkenbeiaaDoor.Pure
open Go.RowKit Go.Proofs.YthdjmbbkenbeiaaDoorW.PrintWords Go.Proofs.YthdjmbbkenbeiaaDoorW.PrintLast Go.Proofs.YthdjmbbkenbeiaaDoorW.PrintMore Go.Proofs.YthdjmbbkenbeiaaDoor.P Go.Proofs.YthdjmbbkenbeiaaDoor.Kit
set_option linter.unusedVariables false
set_option linter.unusedSimpArgs false

/-- The words while word i is being made. -/
def partW (s : ByteArray) (i : Nat) (x : Int) : List Int := wordL s i ++ x :: List.replicate (63 - i) 0
theorem partW_rd (s : ByteArray) (i : Nat) (x : Int) : rd (partW s i x) (i : Int) = x := by
  rw [rd_nat, partW, List.getD_eq_getElem?_getD, List.getElem?_append_right (by rw [wordL_len]; omega), wordL_len]
  simp
theorem partW_set (s : ByteArray) (i : Nat) (x y : Int) : (partW s i x).set i y = partW s i y := by
  unfold partW
  rw [List.set_append_right _ _ (by rw [wordL_len]; omega), wordL_len]
  simp
theorem wordsA_step (s : ByteArray) (m i : Nat) (x y : Int) (hm : m / 4 = i) (h : wordsA s m = partW s i x) (hx : 0 ≤ x) (hx2 : x < 16777216) (hy : y = x * 256 + bt s (m : Int)) : wordsA s (m + 1) = partW s i y := by
  have hb := bt_range s (m : Int)
  simp only [wordsA]
  rw [hm, h, partW_rd, partW_set, or_add 8 _ _ (W32.mod _) (by omega) (W32.mod _) (by omega), hy]
  congr 1
  omega
theorem wordsA_four (s : ByteArray) (i : Nat) (hi : i < 16) (h : wordsA s (4 * i) = partW s i 0) : wordsA s (4 * (i + 1)) = wordL s (i + 1) ++ List.replicate (63 - i) 0 := by
  have b0 := bt_range s ((4 * i : Nat) : Int)
  have b1 := bt_range s ((4 * i + 1 : Nat) : Int)
  have b2 := bt_range s ((4 * i + 2 : Nat) : Int)
  have b3 := bt_range s ((4 * i + 3 : Nat) : Int)
  have h1 := wordsA_step s (4 * i) i 0 (bt s ((4 * i : Nat) : Int)) (by omega) h (by omega) (by omega) (by omega)
  have h2 := wordsA_step s (4 * i + 1) i _ (bt s ((4 * i : Nat) : Int) * 256 + bt s ((4 * i + 1 : Nat) : Int)) (by omega) h1 (by omega) (by omega) rfl
  have h3 := wordsA_step s (4 * i + 2) i _ ((bt s ((4 * i : Nat) : Int) * 256 + bt s ((4 * i + 1 : Nat) : Int)) * 256 + bt s ((4 * i + 2 : Nat) : Int)) (by omega) h2 (by omega) (by omega) rfl
  have h4 := wordsA_step s (4 * i + 3) i _ (word s i) (by omega) h3 (by omega) (by omega) (by unfold word; omega)
  rw [show 4 * (i + 1) = 4 * i + 3 + 1 by omega, h4, partW, wordL_succ]
  simp
theorem wordsA_all (s : ByteArray) : ∀ i, i ≤ 16 → wordsA s (4 * i) = wordL s i ++ List.replicate (64 - i) 0
  | 0, _ => rfl
  | i + 1, h => by
    have ih := wordsA_all s i (by omega)
    rw [wordsA_four s i (by omega) (by rw [ih, partW, show 64 - i = (63 - i) + 1 by omega, List.replicate_succ]), show 64 - (i + 1) = 63 - i by omega]
theorem wordNext_w (l : List Int) (t : Nat) : W32 (wordNext l t) := W32.mod _
theorem take_set_snoc (l : List Int) (t : Nat) (v : Int) (h : t < l.length) : (l.set t v).take (t + 1) = l.take t ++ [v] := by
  rw [List.take_add_one, List.take_set_of_le (Nat.le_refl _)]
  simp [h]
theorem wordsB_snoc (s : ByteArray) (j : Nat) (h : j < 48) : (wordsB s (j + 1)).take (16 + (j + 1)) = (wordsB s j).take (16 + j) ++ [wordNext (wordsB s j) (16 + j)] :=
  take_set_snoc _ (16 + j) _ (by rw [wordsB_len]; omega)
theorem wordsB_take (s : ByteArray) : ∀ j, j ≤ 48 → ∀ x ∈ (wordsB s j).take (16 + j), W32 x
  | 0, _ => by
    intro x hx
    have := wordsA_all s 16 (Nat.le_refl _)
    simp only [wordsB] at hx
    rw [show 64 = 4 * 16 from rfl, this, List.take_append_of_le_length (by rw [wordL_len]; omega)] at hx
    exact wordL_w s 16 x (List.mem_of_mem_take hx)
  | j + 1, h => by
    intro x hx
    rw [wordsB_snoc s j (by omega), List.mem_append] at hx
    rcases hx with hx | hx
    · exact wordsB_take s j (by omega) x hx
    · simp at hx; subst hx; exact wordNext_w _ _
theorem rd_take (l : List Int) (t i : Nat) (h : i < t) : rd (l.take t) (i : Int) = rd l (i : Int) := by
  rw [rd_nat, rd_nat]
  simp [List.getElem?_take, h]
theorem wB_w (s : ByteArray) (j i : Nat) (hj : j ≤ 48) (hi : i < 16 + j) : W32 (rd (wordsB s j) (i : Int)) := by
  have hl := wordsB_len s j
  rw [← rd_take _ (16 + j) i hi, rd_get _ _ (by rw [List.length_take, hl]; omega)]
  exact wordsB_take s j hj _ (List.getElem_mem _)
theorem l0_ev (s : ByteArray) (st ks : List Int) (r : List Int) (hst : st.length = 8) (h : Ev (fun k => spec_l05Round.l1 k st ks (impl_wordsOf.v s) st 0) r) : Ev (fun k => spec_l05Round.l0 k st ks (wordL s 16) 16) r := by
  have h0 : wordL s 16 = (wordsB s 0).take 16 := by
    simp only [wordsB]
    rw [show 64 = 4 * 16 from rfl, wordsA_all s 16 (Nat.le_refl _), List.take_append_of_le_length (by rw [wordL_len]; omega), List.take_of_length_le (by rw [wordL_len]; omega)]
  rw [h0]
  refine Ev.up (g := fun j k => spec_l05Round.l0 k st ks ((wordsB s j).take (16 + j)) ((16 + j : Nat) : Int)) 48 ?_ ?_ 0 (Nat.zero_le _)
  · intro j hj hh
    refine Ev.step (fun k => ?_) hh
    have hl : ((wordsB s j).take (16 + j)).length = 16 + j := by rw [List.length_take, wordsB_len]; omega
    have e1 : wrap64 (((16 + j : Nat) : Int) - 2) = ((14 + j : Nat) : Int) := by rw [w64 (by omega) (by omega)]; omega
    have e2 : wrap64 (((16 + j : Nat) : Int) - 7) = ((9 + j : Nat) : Int) := by rw [w64 (by omega) (by omega)]; omega
    have e3 : wrap64 (((16 + j : Nat) : Int) - 15) = ((1 + j : Nat) : Int) := by rw [w64 (by omega) (by omega)]; omega
    have e4 : wrap64 (((16 + j : Nat) : Int) - 16) = ((j : Nat) : Int) := by rw [w64 (by omega) (by omega)]; omega
    have e5 : wrap64 (((16 + j : Nat) : Int) + 1) = ((16 + (j + 1) : Nat) : Int) := by rw [w64 (by omega) (by omega)]; omega
    simp only [spec_l05Round.l0]
    rw [e1, e2, e3, e4, e5, hl, rd_take _ _ _ (by omega), rd_take _ _ _ (by omega), rd_take _ _ _ (by omega), rd_take _ _ _ (by omega)]
    rw [if_pos (by omega), if_pos (by omega), if_pos (by omega), S_w1 _ (wB_w s j _ (by omega) (by omega))]
    simp only [Option.bind_some]
    rw [if_pos (by omega), if_pos (by omega), if_pos (by omega), if_pos (by omega), S_w0 _ (wB_w s j _ (by omega) (by omega))]
    simp only [Option.bind_some]
    rw [if_pos (by omega), if_pos (by omega), if_pos (by omega), wordsB_snoc s j hj]
    congr 2
    unfold wordNext
    rw [show 16 + j - 2 = 14 + j by omega, show 16 + j - 7 = 9 + j by omega, show 16 + j - 15 = 1 + j by omega, show 16 + j - 16 = j by omega]
    simp only [List.append_cancel_left_eq, List.cons.injEq, and_true]
    omega
  · refine Ev.step (fun k => ?_) h
    have hl := wordsB_len s 48
    simp only [spec_l05Round.l0, Option.bind_some]
    rw [if_neg (by omega), if_pos (by simp; omega), List.take_of_length_le (by omega)]
    rfl
theorem wl0 : wrap64 0 = 0 := w64 (by decide) (by decide)
theorem wl1 : wrap64 1 = 1 := w64 (by decide) (by decide)
theorem wl2 : wrap64 2 = 2 := w64 (by decide) (by decide)
theorem wl3 : wrap64 3 = 3 := w64 (by decide) (by decide)
theorem wl4 : wrap64 4 = 4 := w64 (by decide) (by decide)
theorem wl5 : wrap64 5 = 5 := w64 (by decide) (by decide)
theorem wl6 : wrap64 6 = 6 := w64 (by decide) (by decide)
theorem wl7 : wrap64 7 = 7 := w64 (by decide) (by decide)
theorem wl8 : wrap64 8 = 8 := w64 (by decide) (by decide)
theorem l2_seven (k : Nat) (x0 x1 x7 : List Int) (a b c d e f g h t u v : Int) : spec_l05Round.l2 (k + 1 + 1 + 1 + 1 + 1 + 1 + 1 + 1) x0 x1 x7 [a, b, c, d, e, f, g, h] t u v 7 = spec_l05Round.l1 k x0 x1 x7 [(u + v) % 4294967296, a, b, c, (d + u) % 4294967296, e, f, g] (wrap64 (t + 1)) := by
  simp [spec_l05Round.l2, wl0, wl1, wl2, wl3, wl4, wl5, wl6, wl7, wl8, rd]
theorem l3_eight (k : Nat) (a b c d e f g h a' b' c' d' e' f' g' h' : Int) : spec_l05Round.l3 (k + 1 + 1 + 1 + 1 + 1 + 1 + 1 + 1 + 1) [a, b, c, d, e, f, g, h] [a', b', c', d', e', f', g', h'] [] 0 = some [(a + a') % 4294967296, (b + b') % 4294967296, (c + c') % 4294967296, (d + d') % 4294967296, (e + e') % 4294967296, (f + f') % 4294967296, (g + g') % 4294967296, (h + h') % 4294967296] := by
  simp [spec_l05Round.l3, wl0, wl1, wl2, wl3, wl4, wl5, wl6, wl7, wl8, rd]
theorem sums_eight (a b c d e f g h a' b' c' d' e' f' g' h' : Int) : sums [a, b, c, d, e, f, g, h] [a', b', c', d', e', f', g', h'] 8 = [(a' + a) % 4294967296, (b' + b) % 4294967296, (c' + c) % 4294967296, (d' + d) % 4294967296, (e' + e) % 4294967296, (f' + f) % 4294967296, (g' + g) % 4294967296, (h' + h) % 4294967296] := rfl
/-- Eight words. -/
def Eight (l : List Int) : Prop := l.length = 8 ∧ ∀ x ∈ l, W32 x
theorem Eight.cases {l : List Int} (h : Eight l) : ∃ a b c d e f g i, l = [a, b, c, d, e, f, g, i] ∧ W32 a ∧ W32 b ∧ W32 c ∧ W32 d ∧ W32 e ∧ W32 f ∧ W32 g ∧ W32 i := by
  obtain ⟨hl, hw⟩ := h
  match l, hl with
  | [a, b, c, d, e, f, g, i], _ => exact ⟨a, b, c, d, e, f, g, i, rfl, hw _ (by simp), hw _ (by simp), hw _ (by simp), hw _ (by simp), hw _ (by simp), hw _ (by simp), hw _ (by simp), hw _ (by simp)⟩
theorem Eight.mk' {a b c d e f g i : Int} (h1 : W32 a) (h2 : W32 b) (h3 : W32 c) (h4 : W32 d) (h5 : W32 e) (h6 : W32 f) (h7 : W32 g) (h8 : W32 i) : Eight [a, b, c, d, e, f, g, i] := by
  refine ⟨rfl, fun x hx => ?_⟩
  simp only [List.mem_cons, List.not_mem_nil, or_false] at hx
  rcases hx with rfl | rfl | rfl | rfl | rfl | rfl | rfl | rfl <;> assumption
theorem rnd_eight {k w : Int} {l : List Int} (h : Eight l) : Eight (rnd k w l) := by
  obtain ⟨a, b, c, d, e, f, g, i, rfl, h1, h2, h3, h4, h5, h6, h7, h8⟩ := h.cases
  exact Eight.mk' (W32.mod _) h1 h2 h3 (W32.mod _) h5 h6 h7
theorem rounds_eight {ws st : List Int} (h : Eight st) : ∀ t, Eight (rounds ws st t)
  | 0 => h
  | t + 1 => rnd_eight (rounds_eight h t)
theorem sums_eq {st v : List Int} (hst : Eight st) (hv : Eight v) : ∃ k0, ∀ k, k0 ≤ k → spec_l05Round.l3 k st v [] 0 = some (sums st v 8) := by
  obtain ⟨a, b, c, d, e, f, g, i, rfl, _⟩ := hv.cases
  obtain ⟨a', b', c', d', e', f', g', i', rfl, _⟩ := hst.cases
  refine ⟨9, fun k hk => ?_⟩
  obtain ⟨k', rfl⟩ : ∃ k', k = k' + 1 + 1 + 1 + 1 + 1 + 1 + 1 + 1 + 1 := ⟨k - 9, by omega⟩
  rw [l3_eight, sums_eight]
  simp only [Int.add_comm]
theorem l1_exit (ws : List Int) {st v : List Int} (hst : Eight st) (hv : Eight v) : ∃ k0, ∀ k, k0 ≤ k → spec_l05Round.l1 k st roundKeys ws v ((64 : Nat) : Int) = some (sums st v 8) := by
  obtain ⟨k0, h⟩ := sums_eq hst hv
  refine ⟨k0 + 1, fun k hk => ?_⟩
  obtain ⟨k', rfl⟩ : ∃ k', k = k' + 1 := ⟨k - 1, by omega⟩
  simp only [spec_l05Round.l1]
  rw [if_neg (by decide)]
  exact h k' (by omega)
theorem l1_R (ws : List Int) (st : List Int) (hst : Eight st) (hwl : ws.length = 64) (R : Nat → List Int) (h0 : R 0 = st) (hs : ∀ t, R (t + 1) = rnd (rd roundKeys (t : Int)) (rd ws (t : Int)) (R t)) (he : ∀ t, Eight (R t)) : Ev (fun k => spec_l05Round.l1 k st roundKeys ws st 0) (sums st (R 64) 8) := by
  have hkl : roundKeys.length = 64 := rfl
  have key : Ev (fun k => spec_l05Round.l1 k st roundKeys ws (R 0) ((0 : Nat) : Int)) (sums st (R 64) 8) := by
    refine Ev.up (g := fun t k => spec_l05Round.l1 k st roundKeys ws (R t) (t : Int)) 64 ?_ ?_ 0 (Nat.zero_le _)
    · intro t ht hh
      obtain ⟨a, b, c, d, e, f, g, i, hv, h1, h2, h3, h4, h5, h6, h7, h8⟩ := (he t).cases
      obtain ⟨K, hK⟩ := hh
      refine ⟨K + 9, fun k hk => ?_⟩
      obtain ⟨k', rfl⟩ : ∃ k', k = k' + 1 + 1 + 1 + 1 + 1 + 1 + 1 + 1 + 1 := ⟨k - 9, by omega⟩
      have hgo := hK k' (by omega)
      simp only [spec_l05Round.l1]
      rw [hv]
      rw [if_pos (by omega), if_pos (by simp), if_pos (by simp), if_pos (by simp), if_pos (by simp), show rd [a, b, c, d, e, f, g, i] 4 = e from rfl, show rd [a, b, c, d, e, f, g, i] 0 = a from rfl, show rd [a, b, c, d, e, f, g, i] 5 = f from rfl, show rd [a, b, c, d, e, f, g, i] 6 = g from rfl, show rd [a, b, c, d, e, f, g, i] 7 = i from rfl, show rd [a, b, c, d, e, f, g, i] 1 = b from rfl, show rd [a, b, c, d, e, f, g, i] 2 = c from rfl, S_e e h5]
      simp only [Option.bind_some]
      rw [if_pos (by omega), if_pos (by omega), if_pos (by omega), if_pos (by simp), if_pos (by simp), if_pos (by simp), S_a a h1]
      simp only [Option.bind_some]
      rw [l2_seven, w64s t (by omega)]
      rw [← hgo, hs t, hv]
      simp only [rnd]
      rw [not32 e h5, show (4294967295 - e) % 4294967296 = 4294967295 - e by have := h5.1; have := h5.2; omega]
      congr 1
      simp only [List.cons.injEq, and_true, true_and]
      constructor <;> omega
    · exact l1_exit ws hst (he 64)
  rw [h0] at key
  exact key
theorem oneBlock_R (st : List Int) (s : ByteArray) (R : Nat → List Int) (hR : R = rounds (impl_wordsOf.v s) st) : impl_oneBlock.v st s = sums st (R 64) 8 := by
  rw [hR]; rfl
theorem l1_ev (s : ByteArray) (st : List Int) (hst : Eight st) : Ev (fun k => spec_l05Round.l1 k st roundKeys (impl_wordsOf.v s) st 0) (impl_oneBlock.v st s) := by
  obtain ⟨R, hR⟩ : ∃ R, R = rounds (impl_wordsOf.v s) st := ⟨_, rfl⟩
  rw [oneBlock_R st s R hR]
  exact l1_R _ st hst (wordsB_len s 48) R (by rw [hR]; rfl) (fun t => by rw [hR]; rfl) (fun t => by rw [hR]; exact rounds_eight hst t)
/-- The reference's round is the program's. -/
theorem spec_l05Round_ev (s : ByteArray) (st : List Int) (hst : Eight st) (hs : s.size = 64) : Ev (fun k => spec_l05Round.f k st roundKeys s) (impl_oneBlock.v st s) := by
  unfold spec_l05Round.f
  exact Ev.bind (spec_l05Words_ev s 16 (by omega) (by decide)) (l0_ev s st roundKeys _ hst.1 (l1_ev s st hst))
theorem sums_8 {st v : List Int} (hst : Eight st) (hv : Eight v) : Eight (sums st v 8) := by
  obtain ⟨a, b, c, d, e, f, g, i, rfl, _⟩ := hv.cases
  obtain ⟨a', b', c', d', e', f', g', i', rfl, _⟩ := hst.cases
  rw [sums_eight]
  exact Eight.mk' (W32.mod _) (W32.mod _) (W32.mod _) (W32.mod _) (W32.mod _) (W32.mod _) (W32.mod _) (W32.mod _)
theorem oneBlock_eight {st : List Int} {s : ByteArray} (h : Eight st) : Eight (impl_oneBlock.v st s) := sums_8 h (rounds_eight h 64)
end Go.Proofs.YthdjmbbkenbeiaaDoor.Pure
namespace Go.Proofs.YthdjmbbkenbeiaaDoor.Pure
open Go.RowKit Go.Proofs.YthdjmbbkenbeiaaDoorW.PrintWords Go.Proofs.YthdjmbbkenbeiaaDoorW.PrintLast Go.Proofs.YthdjmbbkenbeiaaDoorW.PrintMore Go.Proofs.YthdjmbbkenbeiaaDoor.P Go.Proofs.YthdjmbbkenbeiaaDoor.Kit
set_option linter.unusedVariables false
set_option linter.unusedSimpArgs false

theorem strOf_app (a b : List Int) : strOfNums a ++ strOfNums b = strOfNums (a ++ b) := by
  apply bytes_ext
  simp [strOfNums, ByteArray.data_append]
theorem strOf_extract (xs : List Int) (a b : Nat) : (strOfNums xs).extract a b = strOfNums ((xs.drop a).take (b - a)) := by
  apply bytes_ext
  rw [ByteArray.data_extract]
  simp [strOfNums, List.map_drop, List.map_take]
theorem empty_app (s : ByteArray) : (⟨#[]⟩ : ByteArray) ++ s = s := by
  apply bytes_ext
  simp [ByteArray.data_append]
theorem bt_strOf (xs : List Int) (j : Nat) (hj : j < xs.length) (h : 0 ≤ xs[j] ∧ xs[j] ≤ 255) : bt (strOfNums xs) (j : Int) = xs[j] := by
  have hs : j < (strOfNums xs).size := by rw [strOfNums_size]; exact hj
  rw [← bt_at (strOfNums xs) (j : Int) (by simpa using hs)]
  simp only [Int.toNat_natCast]
  rw [strOfNums_get xs j hs, UInt8.toNat_ofNat']
  omega

def fourL (x : Int) : List Int := [(x / 16777216) % 256, (x / 65536) % 256, (x / 256) % 256, x % 256]
def bytesW (l : List Int) : List Int := l.flatMap fourL
theorem bytesW_len (l : List Int) : (bytesW l).length = 4 * l.length := by
  induction l with
  | nil => rfl
  | cons x l ih => simp only [bytesW, List.flatMap_cons, List.length_append, List.length_cons] at ih ⊢; rw [ih]; simp [fourL]; omega
theorem bytesW_succ (l : List Int) (i : Nat) (h : i < l.length) : bytesW (l.take (i + 1)) = bytesW (l.take i) ++ fourL l[i] := by
  show (l.take (i + 1)).flatMap fourL = (l.take i).flatMap fourL ++ fourL l[i]
  rw [← take_snoc l i h, List.flatMap_append, List.flatMap_singleton]
theorem spec_l05Bytes_ev (l : List Int) (hl : l.length ≤ 1000000) (hw : ∀ x ∈ l, W32 x) : Ev (fun k => spec_l05Bytes.f k l) (strOfNums (bytesW l)) := by
  refine Ev.up (g := fun i k => spec_l05Bytes.l0 k l (bytesW (l.take i)) (i : Int)) l.length ?_ ?_ 0 (Nat.zero_le _)
  · intro i hi hh
    refine Ev.step (fun k => ?_) hh
    have hx := hw l[i] (List.getElem_mem hi)
    simp only [spec_l05Bytes.l0, Option.bind_some]
    rw [if_pos (by omega), if_pos (by omega), if_pos (by rw [bytesW_len, List.length_take]; simp; omega), w64s i (by omega), bytesW_succ l i hi, rd_get l i hi]
    congr 2
    unfold fourL
    rw [Int.tdiv_eq_ediv_of_nonneg hx.1, Int.tdiv_eq_ediv_of_nonneg hx.1, Int.tdiv_eq_ediv_of_nonneg hx.1, Int.tmod_eq_emod_of_nonneg hx.1]
    have h1 := hx.1
    have h2 := hx.2
    generalize l[i] = x at h1 h2 ⊢
    simp only [List.cons.injEq, and_true]
    refine ⟨by omega, by omega, by omega, by omega⟩
  · refine Ev.step (f := fun _ => some (strOfNums (bytesW l))) (fun k => ?_) (Ev.now _)
    simp only [spec_l05Bytes.l0]
    rw [if_neg (by omega), List.take_length]
theorem stateText_cat (l : List Int) (hl : l.length = 8) : ∀ n, n ≤ 8 → impl_stateText.cat l n = some (strOfNums (bytesW (l.take n)))
  | 0, _ => rfl
  | n + 1, h => by
    simp only [impl_stateText.cat]
    rw [stateText_cat l hl n (by omega)]
    simp only [Option.bind_some]
    show (some (strOfNums (fourL (rd l (n : Int))))).bind _ = _
    simp only [Option.bind_some]
    rw [if_pos (by rw [strOfNums_size, strOfNums_size, bytesW_len, List.length_take]; simp [fourL]; omega), rd_get l n (by omega), strOf_app, bytesW_succ l n (by omega)]
theorem stateText_eq (l : List Int) (hl : l.length = 8) : impl_stateText.f l = some (strOfNums (bytesW l)) := by
  unfold impl_stateText.f
  rw [stateText_cat l hl 8 (Nat.le_refl _), List.take_of_length_le (by omega)]
theorem fourL_range (x : Int) : ∀ y ∈ fourL x, 0 ≤ y ∧ y ≤ 255 := by
  intro y hy
  simp only [fourL, List.mem_cons, List.not_mem_nil, or_false] at hy
  rcases hy with rfl | rfl | rfl | rfl <;> omega
theorem bytesW_range (l : List Int) : ∀ y ∈ bytesW l, 0 ≤ y ∧ y ≤ 255 := by
  intro y hy
  obtain ⟨x, _, hx⟩ := List.mem_flatMap.mp hy
  exact fourL_range x y hx
theorem wordL_bytes {l : List Int} (h : Eight l) : wordL (strOfNums (bytesW l)) 8 = l := by
  obtain ⟨a, b, c, d, e, f, g, i, rfl, h1, h2, h3, h4, h5, h6, h7, h8⟩ := h.cases
  have hb : ∀ (j : Nat) (hj : j < (bytesW [a, b, c, d, e, f, g, i]).length), bt (strOfNums (bytesW [a, b, c, d, e, f, g, i])) (j : Int) = (bytesW [a, b, c, d, e, f, g, i])[j] :=
    fun j hj => bt_strOf _ j hj (bytesW_range _ _ (List.getElem_mem hj))
  have hw : ∀ (t : Nat) (x : Int), W32 x → (∀ q, q < 4 → bt (strOfNums (bytesW [a, b, c, d, e, f, g, i])) ((4 * t + q : Nat) : Int) = (fourL x).getD q 0) → word (strOfNums (bytesW [a, b, c, d, e, f, g, i])) t = x := by
    intro t x hx hq
    unfold word
    have q0 := hq 0 (by decide)
    have q1 := hq 1 (by decide)
    have q2 := hq 2 (by decide)
    have q3 := hq 3 (by decide)
    simp only [Nat.add_zero] at q0
    rw [q0, q1, q2, q3]
    simp only [fourL, List.getD_cons_zero, List.getD_cons_succ]
    have := hx.1
    have := hx.2
    omega
  have h4' : ∀ (t q : Nat) (x : Int), (bytesW [a, b, c, d, e, f, g, i])[4 * t + q]? = some ((fourL x).getD q 0) → bt (strOfNums (bytesW [a, b, c, d, e, f, g, i])) ((4 * t + q : Nat) : Int) = (fourL x).getD q 0 := by
    intro t q x hx
    obtain ⟨hlt, he⟩ := List.getElem?_eq_some_iff.mp hx
    rw [hb _ hlt, he]
  have all4 : ∀ {p : Nat → Prop}, p 0 → p 1 → p 2 → p 3 → ∀ q, q < 4 → p q := by
    intro p p0 p1 p2 p3 q hq
    match q, hq with
    | 0, _ => exact p0
    | 1, _ => exact p1
    | 2, _ => exact p2
    | 3, _ => exact p3
  show [word _ 0, word _ 1, word _ 2, word _ 3, word _ 4, word _ 5, word _ 6, word _ 7] = _
  rw [hw 0 a h1 (all4 (h4' 0 0 a rfl) (h4' 0 1 a rfl) (h4' 0 2 a rfl) (h4' 0 3 a rfl)), hw 1 b h2 (all4 (h4' 1 0 b rfl) (h4' 1 1 b rfl) (h4' 1 2 b rfl) (h4' 1 3 b rfl)), hw 2 c h3 (all4 (h4' 2 0 c rfl) (h4' 2 1 c rfl) (h4' 2 2 c rfl) (h4' 2 3 c rfl)), hw 3 d h4 (all4 (h4' 3 0 d rfl) (h4' 3 1 d rfl) (h4' 3 2 d rfl) (h4' 3 3 d rfl)), hw 4 e h5 (all4 (h4' 4 0 e rfl) (h4' 4 1 e rfl) (h4' 4 2 e rfl) (h4' 4 3 e rfl)), hw 5 f h6 (all4 (h4' 5 0 f rfl) (h4' 5 1 f rfl) (h4' 5 2 f rfl) (h4' 5 3 f rfl)), hw 6 g h7 (all4 (h4' 6 0 g rfl) (h4' 6 1 g rfl) (h4' 6 2 g rfl) (h4' 6 3 g rfl)), hw 7 i h8 (all4 (h4' 7 0 i rfl) (h4' 7 1 i rfl) (h4' 7 2 i rfl) (h4' 7 3 i rfl))]

/-! the blocks -/
theorem first_eight : Eight impl_firstState.v := by
  refine ⟨rfl, ?_⟩
  intro x hx
  simp only [impl_firstState.v, List.mem_cons, List.not_mem_nil, or_false] at hx
  unfold W32
  omega
theorem stAt_eight {st : List Int} (h : Eight st) (s : ByteArray) : ∀ n, Eight (stAt st s n)
  | 0 => h
  | n + 1 => oneBlock_eight (stAt_eight h s n)
theorem ext_in (s e : ByteArray) (a b : Nat) (h : b ≤ s.size) : (s ++ e).extract a b = s.extract a b := by
  rw [ByteArray.extract_append, Nat.sub_eq_zero_of_le h]
  apply bytes_ext
  simp [ByteArray.data_append, ByteArray.data_extract]
theorem stAt_in (st : List Int) (s e : ByteArray) : ∀ n, 64 * n ≤ s.size → stAt st (s ++ e) n = stAt st s n
  | 0, _ => rfl
  | n + 1, h => by
    simp only [stAt]
    rw [stAt_in st s e n (by omega), ext_in s e _ _ (by omega)]
theorem ext_over (s e : ByteArray) (T : List Int) (n j : Nat) (hn : 64 * n ≤ s.size) (hT : s.extract (64 * n) s.size ++ e = strOfNums T) : (s ++ e).extract (64 * (n + j)) (64 * (n + j) + 64) = strOfNums ((T.drop (64 * j)).take 64) := by
  have hP : (s.extract 0 (64 * n)).size = 64 * n := by rw [ByteArray.size_extract]; omega
  have hs : s = s.extract 0 (64 * n) ++ s.extract (64 * n) s.size := by
    rw [ByteArray.extract_append_extract]
    apply bytes_ext
    rw [ByteArray.data_extract]
    simp [Nat.min_eq_left, Nat.max_eq_right hn]
    exact (List.take_of_length_le (by rw [Array.length_toList]; exact Nat.le_refl _)).symm
  have h1 : s ++ e = s.extract 0 (64 * n) ++ strOfNums T := by
    rw [← hT, ← ByteArray.append_assoc, ← hs]
  have h2 := ByteArray.extract_append_size_add (a := s.extract 0 (64 * n)) (b := strOfNums T) (i := 64 * j) (j := 64 * j + 64)
  rw [hP] at h2
  rw [h1, show 64 * (n + j) = 64 * n + 64 * j by omega, show 64 * n + 64 * j + 64 = 64 * n + (64 * j + 64) by omega, h2, strOf_extract]
  congr 2
  omega
theorem blocksAt_ev (s e : ByteArray) (T : List Int) (st : List Int) (hst : Eight st) (n : Nat) (hn : 64 * n ≤ s.size) (hT : s.extract (64 * n) s.size ++ e = strOfNums T) : ∀ j, 64 * j ≤ T.length → Ev (fun k => blocksAt k roundKeys T (stAt st s n) j) (stAt st (s ++ e) (n + j))
  | 0, _ => by
    rw [Nat.add_zero, stAt_in st s e n hn]
    exact Ev.now _
  | j + 1, h => by
    have ih := blocksAt_ev s e T st hst n hn hT j (by omega)
    simp only [blocksAt]
    refine Ev.bind ih ?_
    rw [show n + (j + 1) = n + j + 1 by omega]
    simp only [stAt]
    rw [ext_over s e T n j hn hT]
    exact spec_l05Round_ev _ _ (stAt_eight hst _ _) (by rw [strOfNums_size, List.length_take, List.length_drop]; omega)
end Go.Proofs.YthdjmbbkenbeiaaDoor.Pure
namespace Go.Proofs.YthdjmbbkenbeiaaDoor.Pure
open Go.RowKit Go.Proofs.YthdjmbbkenbeiaaDoorW.PrintWords Go.Proofs.YthdjmbbkenbeiaaDoorW.PrintLast Go.Proofs.YthdjmbbkenbeiaaDoorW.PrintMore Go.Proofs.YthdjmbbkenbeiaaDoor.P Go.Proofs.YthdjmbbkenbeiaaDoor.Kit
set_option linter.unusedVariables false
set_option linter.unusedSimpArgs false

theorem sh8_succ (x : Int) (k : Nat) (h0 : 0 ≤ sh8 x k) (h1 : sh8 x k ≤ 4611686018427387904) : sh8 x (k + 1) = sh8 x k / 256 := by
  simp only [sh8]
  rw [Int.tdiv_eq_ediv_of_nonneg h0, w64 (by omega) (by omega)]
theorem endB_eight (x : Int) (h0 : 0 ≤ x) (h1 : x ≤ 4611686018427387904) : endB x 8 = fourL ((x / 4294967296) % 4294967296) ++ fourL (x % 4294967296) := by
  have y0 : sh8 x 0 = x := rfl
  have y1 := sh8_succ x 0 (by rw [y0]; omega) (by rw [y0]; omega)
  rw [y0] at y1
  have y2 := sh8_succ x 1 (by rw [y1]; omega) (by rw [y1]; omega)
  rw [y1] at y2
  have y3 := sh8_succ x 2 (by rw [y2]; omega) (by rw [y2]; omega)
  rw [y2] at y3
  have y4 := sh8_succ x 3 (by rw [y3]; omega) (by rw [y3]; omega)
  rw [y3] at y4
  have y5 := sh8_succ x 4 (by rw [y4]; omega) (by rw [y4]; omega)
  rw [y4] at y5
  have y6 := sh8_succ x 5 (by rw [y5]; omega) (by rw [y5]; omega)
  rw [y5] at y6
  have y7 := sh8_succ x 6 (by rw [y6]; omega) (by rw [y6]; omega)
  rw [y6] at y7
  have e : endB x 8 = [Int.tmod (sh8 x 7) 256 % 256, Int.tmod (sh8 x 6) 256 % 256, Int.tmod (sh8 x 5) 256 % 256, Int.tmod (sh8 x 4) 256 % 256, Int.tmod (sh8 x 3) 256 % 256, Int.tmod (sh8 x 2) 256 % 256, Int.tmod (sh8 x 1) 256 % 256, Int.tmod (sh8 x 0) 256 % 256] := by
    simp [endB]
  rw [e, y7, y6, y5, y4, y3, y2, y1, y0]
  rw [Int.tmod_eq_emod_of_nonneg (by omega), Int.tmod_eq_emod_of_nonneg (by omega), Int.tmod_eq_emod_of_nonneg (by omega), Int.tmod_eq_emod_of_nonneg (by omega), Int.tmod_eq_emod_of_nonneg (by omega), Int.tmod_eq_emod_of_nonneg (by omega), Int.tmod_eq_emod_of_nonneg (by omega), Int.tmod_eq_emod_of_nonneg (by omega)]
  simp only [fourL, List.cons_append, List.nil_append, List.cons.injEq, and_true]
  refine ⟨by omega, by omega, by omega, by omega, by omega, by omega, by omega, by omega⟩
theorem ending_eq (c : Nat) (rest : ByteArray) (hr : rest.size = c % 64) (hc : c ≤ 1000000000) : ∃ e, impl_ending.f (c : Int) = some e ∧ e.size ≤ 200 ∧ rest ++ e = strOfNums (tailE rest (c : Int) 8) := by
  have ez : Int.tmod (wrap64 (119 - (Int.tmod (c : Int) 64))) 64 = ((padN rest : Nat) : Int) := by
    have h1 : Int.tmod (c : Int) 64 = (c : Int) % 64 := Int.tmod_eq_emod_of_nonneg (by omega)
    rw [h1, w64 (by omega) (by omega), Int.tmod_eq_emod_of_nonneg (by omega)]
    unfold padN
    omega
  have hp : padN rest < 64 := Nat.mod_lt _ (by decide)
  have e8 : wrap64 (8 * (c : Int)) = 8 * (c : Int) := w64 (by omega) (by omega)
  have hz : impl_zeros.f ((padN rest : Nat) : Int) = some (strOfNums (List.replicate (padN rest) 0)) := by
    unfold impl_zeros.f
    rw [if_pos (by omega), Int.toNat_natCast, if_pos (by omega)]
  have h8 : impl_eightBytes.f (8 * (c : Int)) = some (strOfNums (fourL ((8 * (c : Int) / 4294967296) % 4294967296) ++ fourL (8 * (c : Int) % 4294967296))) := by
    have key : ∀ hi lo : Int, (if (strOfNums (fourL hi)).size + (strOfNums (fourL lo)).size ≤ 9223372036854775807 then some (strOfNums (fourL hi) ++ strOfNums (fourL lo)) else none) = some (strOfNums (fourL hi ++ fourL lo)) := by
      intro hi lo
      rw [strOf_app]
      exact if_pos (by rw [strOfNums_size, strOfNums_size]; show 4 + 4 ≤ _; decide)
    exact key _ _
  refine ⟨(strOfNums [128] ++ strOfNums (List.replicate (padN rest) 0)) ++ strOfNums (fourL ((8 * (c : Int) / 4294967296) % 4294967296) ++ fourL (8 * (c : Int) % 4294967296)), ?_, ?_, ?_⟩
  · unfold impl_ending.f
    rw [ez, hz, e8, h8]
    simp only [Option.bind_some]
    rw [if_pos (by rw [strOfNums_size]; simp; omega), if_pos (by rw [ByteArray.size_append, strOfNums_size, strOfNums_size]; simp [fourL]; exact (show 1 + padN rest ≤ 9223372036854775799 by omega))]
    rfl
  · rw [ByteArray.size_append, ByteArray.size_append, strOfNums_size, strOfNums_size, strOfNums_size]
    simp [fourL]
    omega
  · unfold tailE tailZ
    rw [e8, endB_eight _ (by omega) (by omega), strOf_app, strOf_app]
    have := strOf_app (bl rest) ([128] ++ List.replicate (padN rest) 0 ++ (fourL ((8 * (c : Int) / 4294967296) % 4294967296) ++ fourL (8 * (c : Int) % 4294967296)))
    rw [strOfNums_bl] at this
    rw [this]
    simp only [List.append_assoc]
theorem hasherOk_eq (a b : ByteArray) (c : Nat) (ha : a.size = 32) (hb : b.size = c % 64) (hc : c ≤ 1000000000) : spec_HasherOk.f a b (c : Int) = some true := by
  unfold spec_HasherOk.f
  rw [if_pos (by omega), if_pos (by omega)]
  have : spec_l01In.f (c : Int) 0 1000000000 = some true := by
    unfold spec_l01In.f
    rw [if_pos (by omega), decide_eq_true (by omega)]
  rw [this]
  simp only [Option.bind_some]
  rw [if_pos trivial, Int.tmod_eq_emod_of_nonneg (by omega)]
  congr 1
  rw [beq_iff_eq]
  omega
def S0 : ByteArray := strOfNums (bytesW impl_firstState.v)
theorem bytes32 {l : List Int} (h : Eight l) : (strOfNums (bytesW l)).size = 32 := by
  rw [strOfNums_size, bytesW_len, h.1]
theorem spec_HasherNew_ev : Ev (fun k => spec_HasherNew.f k) (S0, (⟨#[]⟩ : ByteArray), 0) := by
  unfold spec_HasherNew.f
  refine Ev.then (a := impl_firstState.v) rfl ?_
  refine Ev.bind (spec_l05Bytes_ev _ (by decide) first_eight.2) ?_
  exact Ev.now _
theorem words_ev {l : List Int} (h : Eight l) : Ev (fun k => spec_l05Words.f k (strOfNums (bytesW l))) l := by
  have := spec_l05Words_ev (strOfNums (bytesW l)) 8 (bytes32 h) (by decide)
  rwa [wordL_bytes h] at this
theorem K_eq : spec_l05K.f = some roundKeys := rfl
theorem spec_HashMore_ev (s : ByteArray) (hs : s.size ≤ 1000000000) : Ev (fun k => spec_HashMore.f k S0 (⟨#[]⟩ : ByteArray) 0 s) (strOfNums (bytesW (stAt impl_firstState.v s (s.size / 64))), s.extract (64 * (s.size / 64)) s.size, (s.size : Int)) := by
  unfold spec_HashMore.f
  refine Ev.then (hasherOk_eq S0 _ 0 (bytes32 first_eight) rfl (by decide)) ?_
  refine Ev.pos rfl ?_
  have e0 : wrap64 (0 + (s.size : Int)) = (s.size : Int) := by rw [w64 (by omega) (by omega)]; omega
  have hd : decide (wrap64 (0 + (s.size : Int)) > 1000000000) = false := by rw [e0]; exact decide_eq_false (by omega)
  rw [hd]
  refine Ev.step (f := fun k => (spec_l05Words.f k S0).bind fun t => (spec_l05K.f).bind fun t2 => (spec_HashMore.l0 k s t t2 s 0 S0 (⟨#[]⟩ : ByteArray) 0)) (fun k => ?_) ?_
  · simp only [spec_HashMore.j0]
    have hz : (⟨#[]⟩ : ByteArray).size + s.size ≤ 9223372036854775807 := (show 0 + s.size ≤ 9223372036854775807 by omega)
    rw [if_neg (by decide), empty_app]
    simp only [if_pos hz]
  refine Ev.bind (words_ev first_eight) ?_
  refine Ev.then K_eq ?_
  refine Ev.up (g := fun n k => spec_HashMore.l0 k s (stAt impl_firstState.v s n) roundKeys s ((64 * n : Nat) : Int) S0 (⟨#[]⟩ : ByteArray) 0) (s.size / 64) ?_ ?_ 0 (Nat.zero_le _)
  · intro n hn hh
    have e1 : wrap64 (((64 * n : Nat) : Int) + 64) = ((64 * (n + 1) : Nat) : Int) := by rw [w64 (by omega) (by omega)]; omega
    refine Ev.step (f := fun k => (spec_l05Round.f k (stAt impl_firstState.v s n) roundKeys (s.extract (64 * n) (64 * n + 64))).bind fun t => spec_HashMore.l0 k s t roundKeys s ((64 * (n + 1) : Nat) : Int) S0 (⟨#[]⟩ : ByteArray) 0) (fun k => ?_) ?_
    · simp only [spec_HashMore.l0]
      rw [e1, if_pos (by omega), if_pos (by omega), if_pos (by omega), Int.toNat_natCast, Int.toNat_natCast, show 64 * (n + 1) = 64 * n + 64 by omega]
    exact Ev.bind (spec_l05Round_ev _ _ (stAt_eight first_eight s n) (by rw [ByteArray.size_extract]; omega)) hh
  · have e1 : wrap64 (((64 * (s.size / 64) : Nat) : Int) + 64) = ((64 * (s.size / 64 + 1) : Nat) : Int) := by rw [w64 (by omega) (by omega)]; omega
    refine Ev.step (f := fun k => (spec_l05Bytes.f k (stAt impl_firstState.v s (s.size / 64))).bind fun t => some (t, s.extract (64 * (s.size / 64)) s.size, (s.size : Int))) (fun k => ?_) ?_
    · simp only [spec_HashMore.l0]
      have ha : (0 : Int) ≤ ((64 * (s.size / 64) : Nat) : Int) := by omega
      have hb : ((64 * (s.size / 64) : Nat) : Int) ≤ (s.size : Int) := by omega
      rw [e1, if_neg (by omega)]
      simp only [if_pos ha, if_pos hb, Int.toNat_natCast, e0]
    exact Ev.bind (spec_l05Bytes_ev _ (by rw [(stAt_eight first_eight s _).1]; decide) (stAt_eight first_eight s _).2) (Ev.now _)
/-- Both digests of a text. -/
theorem digest_same (s : ByteArray) (hs : s.size ≤ 1000000000) : ∃ d, d.size = 32 ∧ Ev (fun k => spec_DigestOf.f k s) d ∧ impl_DigestOf.f s = some d := by
  have hrs : (s.extract (64 * (s.size / 64)) s.size).size = s.size % 64 := by rw [ByteArray.size_extract]; omega
  obtain ⟨e, he, hes, hT⟩ := ending_eq s.size (s.extract (64 * (s.size / 64)) s.size) hrs hs
  have hTl := tailE_len (s.extract (64 * (s.size / 64)) s.size) (s.size : Int) 8
  have hpad : (s.size % 64 + 1 + padN (s.extract (64 * (s.size / 64)) s.size) + 8) % 64 = 0 := by unfold padN; rw [hrs]; omega
  have hes2 : e.size + s.size % 64 = s.size % 64 + 1 + padN (s.extract (64 * (s.size / 64)) s.size) + 8 := by
    have := congrArg ByteArray.size hT
    rw [ByteArray.size_append, strOfNums_size, hTl, hrs] at this
    omega
  rw [hrs] at hTl
  have hn : (s ++ e).size / 64 = s.size / 64 + (tailE (s.extract (64 * (s.size / 64)) s.size) (s.size : Int) 8).length / 64 := by
    rw [ByteArray.size_append, hTl]
    omega
  refine ⟨strOfNums (bytesW (stAt impl_firstState.v (s ++ e) ((s ++ e).size / 64))), bytes32 (stAt_eight first_eight _ _), ?_, ?_⟩
  · unfold spec_DigestOf.f
    refine Ev.bind spec_HasherNew_ev ?_
    refine Ev.bind (spec_HashMore_ev s hs) ?_
    refine Ev.bind (a := strOfNums (bytesW (stAt impl_firstState.v (s ++ e) ((s ++ e).size / 64)))) ?_ (Ev.now _)
    show Ev (fun k => spec_HashEnd.f k (strOfNums (bytesW (stAt impl_firstState.v s (s.size / 64)))) (s.extract (64 * (s.size / 64)) s.size) (s.size : Int)) _
    unfold spec_HashEnd.f
    refine Ev.then (hasherOk_eq _ _ _ (bytes32 (stAt_eight first_eight s _)) hrs hs) ?_
    refine Ev.pos rfl ?_
    refine Ev.bind (words_ev (stAt_eight first_eight s _)) ?_
    refine Ev.then K_eq ?_
    refine Ev.bind (blocksAt_ev s e _ _ first_eight (s.size / 64) (by omega) hT _ (by omega)) ?_
    rw [← hn]
    exact spec_l05Bytes_ev _ (by rw [(stAt_eight first_eight _ _).1]; decide) (stAt_eight first_eight _ _).2
  · unfold impl_DigestOf.f
    rw [he]
    simp only [Option.bind_some]
    rw [if_pos (by omega), stateText_eq _ (stAt_eight first_eight _ _).1]
end Go.Proofs.YthdjmbbkenbeiaaDoor.Pure
namespace Go.Proofs.YthdjmbbkenbeiaaDoor.Pure
open Go.RowKit Go.Proofs.YthdjmbbkenbeiaaDoorW.PrintWords Go.Proofs.YthdjmbbkenbeiaaDoorW.PrintLast Go.Proofs.YthdjmbbkenbeiaaDoorW.PrintMore Go.Proofs.YthdjmbbkenbeiaaDoor.P Go.Proofs.YthdjmbbkenbeiaaDoor.Kit
set_option linter.unusedVariables false
set_option linter.unusedSimpArgs false

theorem w01 : wrap64 (0 + 1) = 1 := by rw [w64 (by decide) (by decide)]; rfl
theorem w00 : wrap64 (0 + 0) = 0 := by rw [w64 (by decide) (by decide)]; rfl
theorem w20 : wrap64 (2 + 0) = 2 := by rw [w64 (by decide) (by decide)]; rfl
theorem w21 : wrap64 (2 + 1) = 3 := by rw [w64 (by decide) (by decide)]; rfl
theorem w02 : wrap64 (0 * 2) = 0 := by rw [w64 (by decide) (by decide)]; rfl
theorem w12 : wrap64 (1 * 2) = 2 := by rw [w64 (by decide) (by decide)]; rfl
theorem w22 : wrap64 (2 + 2) = 4 := by rw [w64 (by decide) (by decide)]; rfl
theorem w23 : wrap64 (0 + 2) = 2 := by rw [w64 (by decide) (by decide)]; rfl
theorem w11 : wrap64 (1 + 1) = 2 := by rw [w64 (by decide) (by decide)]; rfl
theorem polyBytes_small (l : List Int) (hl : l.length ≤ 1000) : (polyBytesV l).size ≤ 10000 := by
  unfold polyBytesV
  split
  · unfold packV
    rw [strOfNums_size, bytesL_length]
    omega
  · show (0 : Nat) ≤ 10000
    omega
def matV (s : ByteArray) : List (List Int) := [uniV s 0 0, uniV s 1 0, uniV s 0 1, uniV s 1 1]
theorem spec_Matrix_ev (s : ByteArray) (hs : s.size ≤ 1048576) : Ev (fun k => spec_l13Matrix.f k s) (matV s) := by
  have r1 : ∀ (l : List (List Int)) (i j j' : Int) (hj : j < 2) (hw : wrap64 (j + 1) = j') (hl : l.length ≤ 5) (res : List (List Int)) (h : Ev (fun k => spec_l13Matrix.l1 k s (l ++ [uniV s j i]) i j') res), Ev (fun k => spec_l13Matrix.l1 k s l i j) res := by
    intro l i j j' hj hw hl res h
    refine Ev.step (fun k => by simp only [spec_l13Matrix.l1]; rw [if_pos hj, hw]) ?_
    exact Ev.bind (spec_Uniform_ev s j i hs) (Ev.pos (by omega) h)
  have r2 : ∀ (l : List (List Int)) (i i' : Int) (hw : wrap64 (i + 1) = i') (res : List (List Int)) (h : Ev (fun k => spec_l13Matrix.l0 k s l i') res), Ev (fun k => spec_l13Matrix.l1 k s l i 2) res := by
    intro l i i' hw res h
    exact Ev.step (fun k => by simp only [spec_l13Matrix.l1]; rw [if_neg (by decide), hw]) h
  have r3 : ∀ (l : List (List Int)) (i : Int) (hi : i < 2) (res : List (List Int)) (h : Ev (fun k => spec_l13Matrix.l1 k s l i 0) res), Ev (fun k => spec_l13Matrix.l0 k s l i) res := by
    intro l i hi res h
    exact Ev.step (fun k => by simp only [spec_l13Matrix.l0]; rw [if_pos hi]) h
  unfold spec_l13Matrix.f
  refine r3 _ 0 (by decide) _ (r1 _ 0 0 1 (by decide) w01 (by simp) _ (r1 _ 0 1 2 (by decide) w11 (by simp) _ (r2 _ 0 1 w01 _ (r3 _ 1 (by decide) _ (r1 _ 1 0 1 (by decide) w01 (by simp) _ (r1 _ 1 1 2 (by decide) w11 (by simp) _ (r2 _ 1 2 w11 _ ?_)))))))
  exact Ev.step (f := fun _ => some (matV s)) (fun k => by simp only [spec_l13Matrix.l0]; rw [if_neg (by decide)]; rfl) (Ev.now _)
theorem impl_smalls_ev (s : ByteArray) (a b : Int) (hb : b = wrap64 (a + 1)) (ha : a = wrap64 (a + 0)) (hs : s.size ≤ 1048576) : Ev (fun k => impl_smalls.f k s a) [smallV s a, smallV s b] := by
  have u := fun x => impl_Small_ev s x hs
  unfold impl_smalls.f
  refine Ev.step (f := fun k => (impl_Small.f k s a).bind fun t => impl_smalls.l0 k s a [t] 1) (fun k => by simp only [impl_smalls.l0]; rw [if_pos (by decide), w01, ← ha]; simp) (Ev.bind (u a) ?_)
  refine Ev.step (f := fun k => (impl_Small.f k s b).bind fun t => impl_smalls.l0 k s a [smallV s a, t] 2) (fun k => by simp only [impl_smalls.l0]; rw [if_pos (by decide), w11, ← hb]; simp) (Ev.bind (u b) ?_)
  exact Ev.step (f := fun _ => some _) (fun k => by simp only [impl_smalls.l0]; rw [if_neg (by decide)]) (Ev.now _)
theorem impl_ntts_ev (a b A B : List Int) (h1 : Ev (fun k => impl_Ntt.f k a) A) (h2 : Ev (fun k => impl_Ntt.f k b) B) : Ev (fun k => impl_ntts.f k [a, b]) [A, B] := by
  unfold impl_ntts.f
  refine Ev.step (f := fun k => (impl_Ntt.f k a).bind fun t => impl_ntts.l0 k [t] [a, b] 2 1) (fun k => by simp only [impl_ntts.l0]; rw [if_pos (by simp), if_pos (by decide), if_pos (by simp), w01]; rfl) (Ev.bind h1 ?_)
  refine Ev.step (f := fun k => (impl_Ntt.f k b).bind fun t => impl_ntts.l0 k [A, t] [a, b] 2 2) (fun k => by simp only [impl_ntts.l0]; rw [if_pos (by simp), if_pos (by decide), if_pos (by simp), w11]; simp [rd_L4]) (Ev.bind h2 ?_)
  exact Ev.step (f := fun _ => some _) (fun k => by simp only [impl_ntts.l0]; rw [if_neg (by decide)]) (Ev.now _)
theorem impl_rowF_ev (s : ByteArray) (i : Int) (hs : s.size ≤ 1048576) : Ev (fun k => impl_row.f k s i false) [uniV s 0 i, uniV s 1 i] := by
  have u := fun x y => impl_Uniform_ev s x y hs
  unfold impl_row.f
  refine Ev.step (f := fun k => (impl_Uniform.f k s 0 i).bind fun t => impl_row.l0 k s i false [t] 1) (fun k => by simp only [impl_row.l0]; rw [if_pos (by decide), if_neg (by decide), w01]; simp) (Ev.bind (u 0 i) ?_)
  refine Ev.step (f := fun k => (impl_Uniform.f k s 1 i).bind fun t => impl_row.l0 k s i false [uniV s 0 i, t] 2) (fun k => by simp only [impl_row.l0]; rw [if_pos (by decide), if_neg (by decide), w11]; simp) (Ev.bind (u 1 i) ?_)
  exact Ev.step (f := fun _ => some _) (fun k => by simp only [impl_row.l0]; rw [if_neg (by decide)]) (Ev.now _)
theorem pair_spec_small (d rho sg : ByteArray) (m : List (List Int)) (s : List (List Int)) (P S : ByteArray) (i : Int) (hi : i < 2) (hl : s.length ≤ 5) (e u : List Int) (res : ByteArray × ByteArray × Bool)
    (f1 : Ev (fun k => spec_Small.f k sg i) e) (f2 : Ev (fun k => spec_Ntt.f k e) u) (hp : S.size + (polyBytesV u).size ≤ 9223372036854775807)
    (h : Ev (fun k => spec_PairOf.l0 k d rho sg m (s ++ [u]) P (S ++ polyBytesV u) (wrap64 (i + 1))) res) : Ev (fun k => spec_PairOf.l0 k d rho sg m s P S i) res := by
  refine Ev.step (fun k => by simp only [spec_PairOf.l0]; rw [if_pos hi]) ?_
  exact Ev.bind f1 (Ev.bind f2 (Ev.pos (by omega) (Ev.bind (spec_PolyBytes_ev u) (Ev.pos hp h))))
theorem pair_spec_round (d rho sg : ByteArray) (m s row : List (List Int)) (P S : ByteArray) (i i2 : Int) (hi : i < 2) (g e x v : List Int) (res : ByteArray × ByteArray × Bool)
    (j0 j1 : Int) (hm : m.length = 4) (z0 : wrap64 (i * 2) = j0) (z1 : wrap64 (j0 + 2) = j1) (q0 : 0 ≤ j0 ∧ j0 ≤ j1 ∧ j1 ≤ 4) (k3 : (m.take (j1 : Int).toNat).drop (j0 : Int).toNat = row) (k4 : wrap64 (2 + i) = i2)
    (f1 : Ev (fun k => spec_l13Sum.f k row s) g) (f2 : Ev (fun k => spec_Small.f k sg i2) e) (f3 : Ev (fun k => spec_Ntt.f k e) x) (f4 : Ev (fun k => spec_PolyAdd.f k g x) v) (hp : P.size + (polyBytesV v).size ≤ 9223372036854775807)
    (h : Ev (fun k => spec_PairOf.l1 k d rho sg m s (P ++ polyBytesV v) S (wrap64 (i + 1))) res) : Ev (fun k => spec_PairOf.l1 k d rho sg m s P S i) res := by
  refine Ev.step (fun k => by simp only [spec_PairOf.l1]; rw [if_pos hi, z0, z1, if_pos q0.1, if_pos q0.2.1, if_pos (by omega), k3, k4]) ?_
  exact Ev.bind f1 (Ev.bind f2 (Ev.bind f3 (Ev.bind f4 (Ev.bind (spec_PolyBytes_ev v) (Ev.pos hp h)))))
theorem pair_impl_round (d rho : ByteArray) (s e row : List (List Int)) (P S : ByteArray) (i : Int) (hi : i < 2) (h0 : 0 ≤ i) (he : i < (e.length : Int)) (hs : i < (s.length : Int)) (g x u v : List Int) (res : ByteArray × ByteArray × Bool)
    (k1 : rd_L4 e i = x) (k2 : rd_L4 s i = u) (hu : u.length ≤ 1000) (hv : v.length ≤ 1000)
    (f0 : Ev (fun k => impl_row.f k rho i false) row) (f1 : Ev (fun k => impl_dot.f k row s) g) (f4 : Ev (fun k => impl_PolyAdd.f k g x) v) (hp : P.size + (polyBytesV v).size ≤ 9223372036854775807) (hq : S.size + (polyBytesV u).size ≤ 9223372036854775807)
    (h : Ev (fun k => impl_PairOf.l0 k d rho s e (P ++ polyBytesV v) (S ++ polyBytesV u) (wrap64 (i + 1))) res) : Ev (fun k => impl_PairOf.l0 k d rho s e P S i) res := by
  refine Ev.step (fun k => by simp only [impl_PairOf.l0]; rw [if_pos hi, k1, k2]) ?_
  exact Ev.bind f0 (Ev.bind f1 (Ev.pos h0 (Ev.pos he (Ev.bind f4 (Ev.bind (impl_PolyBytes_ev v (by omega)) (Ev.pos hp (Ev.pos hs (Ev.bind (impl_PolyBytes_ev u (by omega)) (Ev.pos hq h)))))))))
theorem pairOf_any (a : ByteArray) : ∃ (P S : ByteArray) (b : Bool), Ev (fun k => spec_PairOf.f k a) (P, S, b) ∧ Ev (fun k => impl_PairOf.f k a) (P, S, b) := by
  by_cases hz : (a.size : Int) = 32
  rotate_left
  · refine ⟨(⟨#[]⟩ : ByteArray), (⟨#[]⟩ : ByteArray), false, ?_, ?_⟩
    · unfold spec_PairOf.f
      exact Ev.neg hz (Ev.now _)
    · unfold impl_PairOf.f
      exact Ev.neg hz (Ev.now _)
  have one : ∀ (d : ByteArray) (x : UInt8), (d ++ (⟨#[x]⟩ : ByteArray)).size = d.size + 1 := fun d x => by rw [ByteArray.size_append]; rfl
  obtain ⟨d, d32, sd, id⟩ := digest_same a (by omega)
  obtain ⟨rho, r32, sr, ir⟩ := digest_same (d ++ (⟨#[114]⟩ : ByteArray)) (by rw [one]; omega)
  obtain ⟨sg, g32, ss, is⟩ := digest_same (d ++ (⟨#[115]⟩ : ByteArray)) (by rw [one]; omega)
  obtain ⟨zz, z32, sz, iz⟩ := digest_same (d ++ (⟨#[122]⟩ : ByteArray)) (by rw [one]; omega)
  have rs : rho.size ≤ 1048576 := by omega
  have gs : sg.size ≤ 1048576 := by omega
  have ul := fun x y => uniV_len rho x y
  have sl := fun n => smallV_len sg n
  obtain ⟨u0, u0l, n1, n2⟩ := ntt_any (smallV sg 0) (by rw [sl]; decide)
  obtain ⟨u1, u1l, n3, n4⟩ := ntt_any (smallV sg 1) (by rw [sl]; decide)
  obtain ⟨x0, x0l, n5, n6⟩ := ntt_any (smallV sg 2) (by rw [sl]; decide)
  obtain ⟨x1, x1l, n7, n8⟩ := ntt_any (smallV sg 3) (by rw [sl]; decide)
  have part : ∀ (p q x : List Int), p.length ≤ 1000 → q.length ≤ 1000 → x.length ≤ 1000 → ∃ g v : List Int, v.length ≤ 256 ∧ Ev (fun k => spec_l13Sum.f k [p, q] [u0, u1]) g ∧ Ev (fun k => impl_dot.f k [p, q] [u0, u1]) g ∧ Ev (fun k => spec_PolyAdd.f k g x) v ∧ Ev (fun k => impl_PolyAdd.f k g x) v := by
    intro p q x hp hq hx
    obtain ⟨g, g1, g2, g3⟩ := sum_any p q u0 u1 (by omega) (by omega) (by omega) (by omega)
    obtain ⟨v, v1, v2, v3⟩ := add_any g x (by omega) (by omega)
    exact ⟨g, v, v1, g2, g3, v2, v3⟩
  obtain ⟨g0, v0, l0, a1, a2, a3, a4⟩ := part (uniV rho 0 0) (uniV rho 1 0) x0 (by rw [ul]; decide) (by rw [ul]; decide) (by omega)
  obtain ⟨g1, v1, l1, b1, b2, b3, b4⟩ := part (uniV rho 0 1) (uniV rho 1 1) x1 (by rw [ul]; decide) (by rw [ul]; decide) (by omega)
  have p0 := polyBytes_small v0 (by omega)
  have p1 := polyBytes_small v1 (by omega)
  have q0 := polyBytes_small u0 (by omega)
  have q1 := polyBytes_small u1 (by omega)
  obtain ⟨P0, hP0⟩ : ∃ P0, P0 = (⟨#[]⟩ : ByteArray) ++ polyBytesV v0 := ⟨_, rfl⟩
  obtain ⟨P1, hP1⟩ : ∃ P1, P1 = P0 ++ polyBytesV v1 := ⟨_, rfl⟩
  obtain ⟨S0, hS0⟩ : ∃ S0, S0 = (⟨#[]⟩ : ByteArray) ++ polyBytesV u0 := ⟨_, rfl⟩
  obtain ⟨S1, hS1⟩ : ∃ S1, S1 = S0 ++ polyBytesV u1 := ⟨_, rfl⟩
  have zP0 : P0.size ≤ 10000 := by rw [hP0, ByteArray.size_append]; show 0 + _ ≤ _; omega
  have zP1 : P1.size ≤ 20000 := by rw [hP1, ByteArray.size_append]; omega
  have zS0 : S0.size ≤ 10000 := by rw [hS0, ByteArray.size_append]; show 0 + _ ≤ _; omega
  have zS1 : S1.size ≤ 20000 := by rw [hS1, ByteArray.size_append]; omega
  have e0 : (⟨#[]⟩ : ByteArray).size = 0 := rfl
  obtain ⟨dp, dp32, sp, ip⟩ := digest_same (P1 ++ rho) (by rw [ByteArray.size_append]; omega)
  have y1 : (P1 ++ rho).size ≤ 30000 := by rw [ByteArray.size_append]; omega
  have y2 : (S1 ++ (P1 ++ rho)).size ≤ 60000 := by rw [ByteArray.size_append]; omega
  have y3 : ((S1 ++ (P1 ++ rho)) ++ dp).size ≤ 70000 := by rw [ByteArray.size_append]; omega
  refine ⟨P1 ++ rho, ((S1 ++ (P1 ++ rho)) ++ dp) ++ zz, true, ?_, ?_⟩
  · unfold spec_PairOf.f
    refine Ev.pos hz (Ev.bind sd (Ev.pos (by omega) (Ev.bind sr (Ev.bind ss (Ev.bind (spec_Matrix_ev rho rs) ?_)))))
    refine pair_spec_small d rho sg _ [] _ _ 0 (by decide) (by decide) _ u0 _ (spec_Small_ev sg 0 gs) n1 (by omega) ?_
    rw [w01, ← hS0]
    refine pair_spec_small d rho sg _ _ _ _ 1 (by decide) (by simp) _ u1 _ (spec_Small_ev sg 1 gs) n3 (by omega) ?_
    rw [w11, ← hS1]
    refine Ev.step (f := fun k => spec_PairOf.l1 k d rho sg (matV rho) [u0, u1] (⟨#[]⟩ : ByteArray) S1 0) (fun k => by simp only [spec_PairOf.l0]; rw [if_neg (by decide)]; rfl) ?_
    refine pair_spec_round d rho sg _ _ _ _ _ 0 2 (by decide) g0 _ x0 v0 _ 0 2 rfl w02 w23 (by decide) rfl w20 a1 (spec_Small_ev sg 2 gs) n5 a3 (by omega) ?_
    rw [w01, ← hP0]
    refine pair_spec_round d rho sg _ _ _ _ _ 1 3 (by decide) g1 _ x1 v1 _ 2 4 rfl w12 w22 (by decide) rfl w21 b1 (spec_Small_ev sg 3 gs) n7 b3 (by omega) ?_
    rw [w11, ← hP1]
    refine Ev.step (fun k => by simp only [spec_PairOf.l1]; rw [if_neg (by decide)]) ?_
    exact Ev.pos (by omega) (Ev.pos (by omega) (Ev.bind sp (Ev.pos (by omega) (Ev.pos (by omega) (Ev.bind sz (Ev.pos (by omega) (Ev.now _)))))))
  · unfold impl_PairOf.f
    refine Ev.pos hz (Ev.then id (Ev.pos (by omega) (Ev.then ir (Ev.then is (Ev.bind (impl_smalls_ev sg 0 1 (Eq.symm w01) (Eq.symm w00) gs) (Ev.bind (impl_ntts_ev _ _ _ _ n2 n4) (Ev.bind (impl_smalls_ev sg 2 3 (Eq.symm w21) (Eq.symm w20) gs) (Ev.bind (impl_ntts_ev _ _ _ _ n6 n8) ?_))))))))
    refine pair_impl_round d rho [u0, u1] [x0, x1] _ _ _ 0 (by decide) (by decide) (by simp) (by simp) g0 x0 u0 v0 _ rfl rfl (by omega) (by omega) (impl_rowF_ev rho 0 rs) a2 a4 (by omega) (by omega) ?_
    rw [w01, ← hP0, ← hS0]
    refine pair_impl_round d rho [u0, u1] [x0, x1] _ _ _ 1 (by decide) (by decide) (by simp) (by simp) g1 x1 u1 v1 _ rfl rfl (by omega) (by omega) (impl_rowF_ev rho 1 rs) b2 b4 (by omega) (by omega) ?_
    rw [w11, ← hP1, ← hS1]
    refine Ev.step (fun k => by simp only [impl_PairOf.l0]; rw [if_neg (by decide)]) ?_
    exact Ev.pos (by omega) (Ev.pos (by omega) (Ev.then ip (Ev.pos (by omega) (Ev.pos (by omega) (Ev.then iz (Ev.pos (by omega) (Ev.now _)))))))
end Go.Proofs.YthdjmbbkenbeiaaDoor.Pure
