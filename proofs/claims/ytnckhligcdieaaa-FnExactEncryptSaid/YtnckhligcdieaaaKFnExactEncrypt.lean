/- Plain laws that the law FnExactEncrypt rests on. -/
import Derived.Test.YtnckhligcdieaaaPx0
import Derived.Test.YtnckhligcdieaaaV0
import Derived.Test.YtnckhligcdieaaaHB2
import Derived.Test.YtnckhligcdieaaaHB3
import Derived.Laws.BitsAllLaws
import Derived.Laws.BitsLemmas
import Derived.Test.YtnckhligcdieaaaHB4
import Derived.Test.YtnckhligcdieaaaHB5
import Derived.Test.YtnckhligcdieaaaHB6
import Derived.Test.YtnckhligcdieaaaPx5
import Derived.Test.YtnckhligcdieaaaPx6
import Derived.Test.YtnckhligcdieaaaPx7
import Derived.Test.YtnckhligcdieaaaPx8
import Derived.Test.YtnckhligcdieaaaPx9
import Derived.Test.YtnckhligcdieaaaPx15
import Derived.Test.YtnckhligcdieaaaPx16
import Derived.Test.YtnckhligcdieaaaPx17
import Derived.Test.YtnckhligcdieaaaPx18
import Derived.Test.YtnckhligcdieaaaHB2
import Derived.Test.YtnckhligcdieaaaHB3
import Derived.Test.YtnckhligcdieaaaHB1
import Derived.Test.YtnckhligcdieaaaHB5
import Derived.Test.YtnckhligcdieaaaHB4
import Derived.Test.YtnckhligcdieaaaHB6
namespace Go.Proofs.Ytnckhligcdieaaa.Pure
open Go.RowKit Go.Proofs.YtnckhligcdieaaaW.PrintWords Go.Proofs.YtnckhligcdieaaaW.PrintLast Go.Proofs.YtnckhligcdieaaaW.PrintMore

theorem w64 {x : Int} (h1 : -9223372036854775808 ≤ x) (h2 : x ≤ 9223372036854775807) : wrap64 x = x := by unfold wrap64; omega
theorem w64s (n : Nat) (h : n < 9223372036854775807) : wrap64 ((n : Int) + 1) = ((n + 1 : Nat) : Int) := by rw [w64 (by omega) (by omega)]; rfl
theorem Ev.pos {α : Type} {c : Prop} [Decidable c] {f g : Nat → Option α} {r : α} (hc : c) (h : Ev f r) : Ev (fun k => if c then f k else g k) r := by
  simpa only [if_pos hc] using h
theorem Ev.neg {α : Type} {c : Prop} [Decidable c] {f g : Nat → Option α} {r : α} (hc : ¬ c) (h : Ev g r) : Ev (fun k => if c then f k else g k) r := by
  simpa only [if_neg hc] using h
theorem Ev.const {α : Type} {o : Option α} {r : α} (h : o = some r) : Ev (fun _ => o) r := ⟨0, fun _ _ => h⟩
theorem Ev.then {α β : Type} {o : Option α} {f : Nat → α → Option β} {a : α} {r : β} (h : o = some a) (k : Ev (fun n => f n a) r) : Ev (fun n => o.bind (f n)) r := by
  subst h; exact k
/-- A loop that goes up: what it answers at the end, it answers from the start. -/
theorem Ev.up {α : Type} {g : Nat → Nat → Option α} {r : α} (n : Nat) (hs : ∀ i, i < n → Ev (g (i + 1)) r → Ev (g i) r) (he : Ev (g n) r) (i : Nat) (hi : i ≤ n) : Ev (g i) r := by
  obtain ⟨d, rfl⟩ : ∃ d, n = i + d := ⟨n - i, by omega⟩
  induction d generalizing i with
  | zero => exact he
  | succ d ih =>
    refine hs i (by omega) (ih (i + 1) ?_ ?_ (by omega))
    · intro j hj h
      exact hs j (by omega) h
    · rw [show i + 1 + d = i + (d + 1) by omega]; exact he
/-- A loop that may stop early. -/
theorem Ev.upTo {α : Type} {g : Nat → Nat → Option α} {r : Nat → α} (n : Nat) (hs : ∀ i, i < n → Ev (g (i + 1)) (r (i + 1)) → Ev (g i) (r i)) (he : Ev (g n) (r n)) (i : Nat) (hi : i ≤ n) : Ev (g i) (r i) := by
  obtain ⟨d, rfl⟩ : ∃ d, n = i + d := ⟨n - i, by omega⟩
  induction d generalizing i with
  | zero => exact he
  | succ d ih =>
    refine hs i (by omega) (ih (i + 1) ?_ ?_ (by omega))
    · intro j hj h
      exact hs j (by omega) h
    · rw [show i + 1 + d = i + (d + 1) by omega]; exact he

/-- A loop that goes up from a. -/
theorem Ev.upFrom {α : Type} {g : Nat → Nat → Option α} {r : α} (a n : Nat) (hs : ∀ i, a ≤ i → i < n → Ev (g (i + 1)) r → Ev (g i) r) (he : Ev (g n) r) (h : a ≤ n) : Ev (g a) r := by
  have := Ev.up (g := fun i => g (a + i)) (r := r) (n - a) (fun i hi h => hs (a + i) (by omega) (by omega) h) (by simpa only [show a + (n - a) = n by omega] using he) 0 (by omega)
  exact this

/-! lists -/
theorem rd_nat (l : List Int) (i : Nat) : rd l (i : Int) = l.getD i 0 := by simp [rd]
theorem rd_get (l : List Int) (i : Nat) (h : i < l.length) : rd l (i : Int) = l[i] := by simp [rd, List.getD_eq_getElem?_getD, List.getElem?_eq_getElem h]
theorem drop_all {α : Type} (p : α → Bool) (l : List α) (i : Nat) (h : i < l.length) : (l.drop i).all p = (p l[i] && (l.drop (i + 1)).all p) := by
  rw [List.drop_eq_getElem_cons h, List.all_cons]
theorem take_snoc {α : Type} (l : List α) (i : Nat) (h : i < l.length) : l.take i ++ [l[i]] = l.take (i + 1) := by simp
theorem some_in (a b c : Int) : (if a ≥ b then (some (decide (a ≤ c))) else (some false)) = some (decide (b ≤ a ∧ a ≤ c)) := by
  by_cases h : a ≥ b
  · rw [if_pos h]; congr 1; rw [decide_eq_decide]; constructor
    · intro h2; exact ⟨h, h2⟩
    · intro h2; exact h2.2
  · rw [if_neg h]; congr 1; symm; rw [decide_eq_false_iff_not]; intro h2; exact h h2.1
theorem set_fill {α : Type} (l : List α) (d : α) (i : Nat) (h : i < l.length) : (l.take i ++ List.replicate (l.length - i) d).set i l[i] = l.take (i + 1) ++ List.replicate (l.length - (i + 1)) d := by
  apply List.ext_getElem
  · simp; omega
  · intro j h1 h2
    simp only [List.getElem_set, List.getElem_append, List.length_take, List.getElem_take, List.getElem_replicate]
    split
    · subst_vars
      rw [dif_pos (by omega)]
    · by_cases hj : j < i
      · rw [dif_pos (by omega), dif_pos (by omega)]
      · rw [dif_neg (by omega), dif_neg (by omega)]


/-- The first L bytes of S, the least first. -/
def bytesL (L S : Nat) : List Int := (List.range L).map fun j => ((S / 256 ^ j % 256 : Nat) : Int)
theorem bytesL_length (L S : Nat) : (bytesL L S).length = L := by simp [bytesL]
theorem bytesL_get (L S j : Nat) (h : j < (bytesL L S).length) : (bytesL L S)[j] = ((S / 256 ^ j % 256 : Nat) : Int) := by simp [bytesL]
theorem bytesL_zero (L : Nat) : bytesL L 0 = List.replicate L 0 := by
  apply List.ext_getElem
  · simp [bytesL]
  · intro j h1 h2
    rw [bytesL_get]; simp
theorem bytesL_snoc (L S : Nat) : bytesL L S ++ [((S / 256 ^ L % 256 : Nat) : Int)] = bytesL (L + 1) S := by simp [bytesL, List.range_succ]

theorem pow256 (j : Nat) : 256 ^ j = 2 ^ (8 * j) := by rw [Nat.pow_mul]
theorem bit_add {S P T b : Nat} (hP : 0 < P) (hS : S < P * T) (hT : T ≤ 128) (hb : b ≤ 1) : S / P % 256 + b * T = (S + b * (P * T)) / P % 256 := by
  have hq : S / P < T := Nat.div_lt_of_lt_mul hS
  have hb2 : b * T ≤ T := by
    have := Nat.mul_le_mul_right T hb
    omega
  rw [show b * (P * T) = P * (b * T) from Nat.mul_left_comm .., Nat.add_mul_div_left _ _ hP]
  obtain ⟨q, hq'⟩ : ∃ q, S / P = q := ⟨_, rfl⟩
  obtain ⟨u, hu⟩ : ∃ u, b * T = u := ⟨_, rfl⟩
  rw [hq'] at hq ⊢
  rw [hu] at hb2 ⊢
  rw [Nat.mod_eq_of_lt (show q < 256 by omega), Nat.mod_eq_of_lt (show q + u < 256 by omega)]
/-- Setting a bit above all others. -/
theorem bytesL_bit (L S m b : Nat) (hS : S < 2 ^ m) (hb : b ≤ 1) :
    (bytesL L S).set (m / 8) ((((S / 256 ^ (m / 8)) % 256 + b * 2 ^ (m % 8) : Nat)) : Int) = bytesL L (S + b * 2 ^ m) := by
  have hmm : 2 ^ m = 256 ^ (m / 8) * 2 ^ (m % 8) := by rw [pow256, ← Nat.pow_add]; congr 1; omega
  have h7 : 2 ^ (m % 8) ≤ 128 := by
    have : m % 8 ≤ 7 := by omega
    exact Nat.pow_le_pow_right (n := 2) (by omega) this
  apply List.ext_getElem
  · simp [bytesL]
  · intro j h1 h2
    rw [List.getElem_set, bytesL_get, bytesL_get]
    by_cases hj : m / 8 = j
    · rw [if_pos hj]; subst hj
      congr 1
      rw [hmm]
      exact bit_add (Nat.pow_pos (by omega)) (by rw [← hmm]; exact hS) h7 hb
    · rw [if_neg hj]
      congr 1
      by_cases hlt : j < m / 8
      · obtain ⟨d, hd⟩ : ∃ d, m / 8 = j + 1 + d := ⟨m / 8 - (j + 1), by omega⟩
        have e : b * 2 ^ m = 256 ^ j * (256 * (256 ^ d * (b * 2 ^ (m % 8)))) := by
          rw [hmm, hd, Nat.pow_add, Nat.pow_add]; simp only [Nat.pow_one, Nat.mul_assoc, Nat.mul_comm, Nat.mul_left_comm]
        rw [e, Nat.add_mul_div_left _ _ (Nat.pow_pos (by omega)), Nat.add_mul_mod_self_left]
      · have hle : 2 ^ (m + 1) ≤ 256 ^ j := by rw [pow256]; exact Nat.pow_le_pow_right (by omega) (by omega)
        rw [Nat.pow_succ] at hle
        have hb2 : b * 2 ^ m ≤ 2 ^ m := by
          have := Nat.mul_le_mul_right (2 ^ m) hb
          omega
        rw [Nat.div_eq_of_lt (by omega), Nat.div_eq_of_lt (by omega)]

/-- Numbers of b bits, side by side, the first lowest. -/
def valB (b : Nat) : List Nat → Nat
  | [] => 0
  | x :: l => x + 2 ^ b * valB b l
theorem valB_snoc (b : Nat) (l : List Nat) (x : Nat) : valB b (l ++ [x]) = valB b l + 2 ^ (b * l.length) * x := by
  induction l with
  | nil => simp [valB]
  | cons a l ih =>
    simp only [List.cons_append, valB, ih, List.length_cons, Nat.mul_add, Nat.mul_succ, Nat.pow_add]
    rw [Nat.add_assoc]; congr 2
    rw [← Nat.mul_assoc, Nat.mul_comm (2 ^ b)]
theorem valB_lt (b : Nat) (l : List Nat) (h : ∀ x ∈ l, x < 2 ^ b) : valB b l < 2 ^ (b * l.length) := by
  induction l with
  | nil => simp [valB]
  | cons a l ih =>
    have h1 := h a (List.mem_cons_self ..)
    have h2 := ih fun x hx => h x (List.mem_cons_of_mem _ hx)
    simp only [valB, List.length_cons, Nat.mul_succ, Nat.pow_add]
    have h3 : 2 ^ b * valB b l + 2 ^ b ≤ 2 ^ b * 2 ^ (b * l.length) := by
      rw [← Nat.mul_succ]; exact Nat.mul_le_mul_left _ h2
    rw [Nat.mul_comm (2 ^ (b * l.length))]
    omega
theorem valB_take_succ (b : Nat) (l : List Nat) (i : Nat) (h : i < l.length) : valB b (l.take (i + 1)) = valB b (l.take i) + 2 ^ (b * i) * l[i] := by
  rw [← List.take_append_getElem h, valB_snoc, List.length_take, Nat.min_eq_left (by omega)]
/-- The pieces of S of b bits each are what they are put together again. -/
theorem valB_pieces (b S n : Nat) : valB b ((List.range n).map fun i => S / 2 ^ (b * i) % 2 ^ b) = S % 2 ^ (b * n) := by
  induction n with
  | zero => simp [valB, Nat.mod_one]
  | succ n ih =>
    rw [List.range_succ, List.map_append, List.map_cons, List.map_nil, valB_snoc, ih, List.length_map, List.length_range, Nat.mul_succ, Nat.pow_add, Nat.mod_mul]
theorem valB_piece (b : Nat) (l : List Nat) (h : ∀ x ∈ l, x < 2 ^ b) (i : Nat) (hi : i < l.length) : valB b l / 2 ^ (b * i) % 2 ^ b = l[i] := by
  induction l generalizing i with
  | nil => exact absurd hi (by simp)
  | cons a l ih =>
    have h1 := h a (List.mem_cons_self ..)
    cases i with
    | zero => simp only [valB, Nat.mul_zero, Nat.pow_zero, Nat.div_one, Nat.add_mul_mod_self_left, List.getElem_cons_zero]; exact Nat.mod_eq_of_lt h1
    | succ i =>
      have h2 := ih (fun x hx => h x (List.mem_cons_of_mem _ hx)) i (by simpa using hi)
      simp only [valB, List.getElem_cons_succ]
      rw [Nat.mul_succ, Nat.add_comm (b * i), Nat.pow_add, ← Nat.div_div_eq_div_mul, Nat.add_mul_div_left _ _ (Nat.two_pow_pos b), Nat.div_eq_of_lt h1, Nat.zero_add]
      exact h2

/-- The number that bytes write. -/
def bnum (s : ByteArray) : Nat := valB 8 (s.data.toList.map UInt8.toNat)
theorem bnum_lt (s : ByteArray) : bnum s < 256 ^ s.size := by
  have h := valB_lt 8 (s.data.toList.map UInt8.toNat) (by
    intro x hx
    obtain ⟨c, _, rfl⟩ := List.mem_map.mp hx
    exact c.toNat_lt)
  rw [List.length_map, Array.length_toList, Nat.pow_mul] at h
  exact h
theorem bt_bnum (s : ByteArray) (j : Nat) (h : j < s.size) : bt s (j : Int) = ((bnum s / 256 ^ j % 256 : Nat) : Int) := by
  have h2 := valB_piece 8 (s.data.toList.map UInt8.toNat) (by
    intro x hx
    obtain ⟨c, _, rfl⟩ := List.mem_map.mp hx
    exact c.toNat_lt) j (by simpa using h)
  rw [Nat.pow_mul] at h2
  unfold bnum
  rw [show (256 : Nat) = 2 ^ 8 from rfl, h2]
  unfold bt
  rw [dif_pos (by simpa using h)]
  simp
  rfl
theorem strOfNums_get (xs : List Int) (i : Nat) (h : i < (strOfNums xs).size) : (strOfNums xs)[i] = UInt8.ofNat (xs[i]'(by simpa [strOfNums_size] using h)).toNat := by
  simp [strOfNums, ByteArray.getElem_eq_getElem_data]
theorem bytes_ext {s t : ByteArray} (h : s.data.toList = t.data.toList) : s = t := by
  cases s; cases t; congr 1; exact Array.toList_inj.mp h
theorem bytes_toList {s t : ByteArray} : s.toList = t.toList ↔ s = t := by
  constructor
  · intro h
    refine bytes_ext ?_
    simpa [← ByteArray.toList_eq] using h
  · rintro rfl; rfl
theorem strOf_bnum (s : ByteArray) : strOfNums (bytesL s.size (bnum s)) = s := by
  refine bytes_ext ?_
  rw [strOfNums_data]
  apply List.ext_getElem
  · simp [bytesL]
  · intro j h1 h2
    have hj : j < s.size := by simpa [bytesL] using h1
    have h3 := bt_bnum s j hj
    rw [List.getElem_map, bytesL_get, ← h3]
    unfold bt
    rw [dif_pos (by simpa using hj)]
    simp
    rfl
theorem strOf_inj {L S T : Nat} (hS : S < 256 ^ L) (hT : T < 256 ^ L) (h : strOfNums (bytesL L S) = strOfNums (bytesL L T)) : S = T := by
  have key : ∀ L S T : Nat, S < 256 ^ L → T < 256 ^ L → (∀ j, j < L → S / 256 ^ j % 256 = T / 256 ^ j % 256) → S = T := by
    intro L
    induction L with
    | zero => intro S T h1 h2 _; simp at h1 h2; omega
    | succ L ih =>
      intro S T h1 h2 h3
      have e0 := h3 0 (by omega)
      simp only [Nat.pow_zero, Nat.div_one] at e0
      have e1 := ih (S / 256) (T / 256) (by rw [Nat.pow_succ] at h1; omega) (by rw [Nat.pow_succ] at h2; omega) (fun j hj => by
        have := h3 (j + 1) (by omega)
        rw [Nat.pow_succ, Nat.mul_comm, ← Nat.div_div_eq_div_mul, ← Nat.div_div_eq_div_mul] at this
        exact this)
      omega
  refine key L S T hS hT fun j hj => ?_
  have h4 := congrArg (fun s : ByteArray => s.data.toList[j]?) h
  simp only [strOfNums_data] at h4
  rw [List.getElem?_eq_getElem (by simpa [bytesL] using hj), List.getElem?_eq_getElem (by simpa [bytesL] using hj), List.getElem_map, List.getElem_map, bytesL_get, bytesL_get] at h4
  injection h4 with h4
  have h5 := congrArg UInt8.toNat h4
  rw [Int.toNat_natCast, Int.toNat_natCast] at h5
  simpa using h5

def EqQ (x y : Int) : Prop := x % 3329 = y % 3329
theorem EqQ.refl (x : Int) : EqQ x x := rfl
theorem EqQ.of {x y : Int} (h : x = y) : EqQ x y := by rw [h]; exact EqQ.refl y
theorem EqQ.symm {x y : Int} (h : EqQ x y) : EqQ y x := Eq.symm h
theorem EqQ.trans {x y z : Int} (h : EqQ x y) (k : EqQ y z) : EqQ x z := Eq.trans h k
theorem EqQ.mod (x : Int) : EqQ (x % 3329) x := Int.emod_emod_of_dvd _ (Int.dvd_refl _)
theorem EqQ.neg {x y : Int} (h : EqQ x y) : EqQ (-x) (-y) := by unfold EqQ at *; omega
theorem EqQ.mul {x y z w : Int} (h : EqQ x y) (k : EqQ z w) : EqQ (x * z) (y * w) := by
  unfold EqQ at *
  rw [Int.mul_emod, h, k, ← Int.mul_emod]
theorem EqQ.eqm {x y : Int} (h : EqQ x y) : x % 3329 = y % 3329 := h
theorem mod_in (x : Int) : 0 ≤ x % 3329 ∧ x % 3329 ≤ 3328 := by omega

end Go.Proofs.Ytnckhligcdieaaa.Pure
namespace Go.Proofs.Ytnckhligcdieaaa.Pure
open Go.RowKit Go.Proofs.YtnckhligcdieaaaW.PrintWords Go.Proofs.YtnckhligcdieaaaW.PrintLast Go.Proofs.YtnckhligcdieaaaW.PrintMore Go.Proofs.Ytnckhligcdieaaa.P

theorem l01In_eq (a b c : Int) : spec_l01In.f a b c = some (decide (b ≤ a ∧ a ≤ c)) := some_in a b c
theorem in_eq (a b c : Int) : impl_in.f a b c = some (decide (b ≤ a ∧ a ≤ c)) := some_in a b c

theorem two_le {i : Nat} (h : i ≤ 62) : (2 : Int) ^ i ≤ 4611686018427387904 := by
  have := Nat.pow_le_pow_right (n := 2) (by omega) h
  have h2 : ((2 ^ i : Nat) : Int) ≤ ((2 ^ 62 : Nat) : Int) := Int.ofNat_le.mpr this
  simpa using h2
theorem two_pos (i : Nat) : (0 : Int) < 2 ^ i := Int.pow_pos (by omega)
theorem l11Two_ev (n : Int) (h : n ≤ 62) : Ev (fun k => spec_l11Two.f k n) (2 ^ n.toNat) := by
  unfold spec_l11Two.f
  refine Ev.up (g := fun i k => spec_l11Two.l0 k n (2 ^ i) (i : Int)) (r := (2 : Int) ^ n.toNat) n.toNat ?_ ?_ 0 (by omega)
  · intro i hi h'
    refine Ev.step (fun k => ?_) h'
    simp only [spec_l11Two.l0]
    have h1 := two_le (i := i + 1) (by omega)
    have h2 := two_pos i
    rw [Int.pow_succ] at h1
    rw [if_pos (by omega), w64s i (by omega), w64 (by omega) (by omega), Int.pow_succ, Int.mul_comm]
  · refine Ev.step (f := fun _ => some ((2 : Int) ^ n.toNat)) (fun k => ?_) (Ev.now _)
    simp only [spec_l11Two.l0]
    rw [if_neg (by omega)]

theorem shl64 (x n : Int) (h : n ≤ 64) : shl .i64 x n = wrap64 (x * 2 ^ n.toNat) := by
  unfold shl
  rw [i64_w, show min n.toNat IntKind.i64.bits = n.toNat by simp [IntKind.bits]; omega]
theorem shr64 (x n : Int) (h : n ≤ 64) : shr .i64 x n = x / 2 ^ n.toNat := by
  unfold shr
  rw [show min n.toNat IntKind.i64.bits = n.toNat by simp [IntKind.bits]; omega]

def squeezeV (x d : Int) : Int := if (0 ≤ x ∧ x ≤ 3328) ∧ 1 ≤ d ∧ d ≤ 11 then (2 ^ d.toNat * x + 1664) / 3329 % 2 ^ d.toNat else 0
def stretchV (y d : Int) : Int := if (1 ≤ d ∧ d ≤ 11) ∧ 0 ≤ y ∧ y ≤ 2 ^ d.toNat - 1 then (3329 * y + 2 ^ (d - 1).toNat) / 2 ^ d.toNat else 0

theorem squeezeV_in {x d : Int} (hx : 0 ≤ x ∧ x ≤ 3328) (hd : 1 ≤ d ∧ d ≤ 11) : squeezeV x d = (2 ^ d.toNat * x + 1664) / 3329 % 2 ^ d.toNat := if_pos ⟨hx, hd⟩
theorem squeezeV_out {x d : Int} (h : ¬ ((0 ≤ x ∧ x ≤ 3328) ∧ 1 ≤ d ∧ d ≤ 11)) : squeezeV x d = 0 := if_neg h
theorem stretchV_in {y d : Int} (hd : 1 ≤ d ∧ d ≤ 11) (hy : 0 ≤ y ∧ y ≤ 2 ^ d.toNat - 1) : stretchV y d = (3329 * y + 2 ^ (d - 1).toNat) / 2 ^ d.toNat := if_pos ⟨hd, hy⟩
theorem stretchV_out {y d : Int} (h : ¬ ((1 ≤ d ∧ d ≤ 11) ∧ 0 ≤ y ∧ y ≤ 2 ^ d.toNat - 1)) : stretchV y d = 0 := if_neg h
theorem d11 {d : Int} (h1 : 1 ≤ d) (h2 : d ≤ 11) : d = 1 ∨ d = 2 ∨ d = 3 ∨ d = 4 ∨ d = 5 ∨ d = 6 ∨ d = 7 ∨ d = 8 ∨ d = 9 ∨ d = 10 ∨ d = 11 := by omega
theorem two_bd {d : Int} (h1 : 1 ≤ d) (h2 : d ≤ 11) : (2 : Int) ≤ 2 ^ d.toNat ∧ (2 : Int) ^ d.toNat ≤ 2048 := by
  rcases d11 h1 h2 with rfl | rfl | rfl | rfl | rfl | rfl | rfl | rfl | rfl | rfl | rfl <;> decide
theorem two_half {d : Int} (h1 : 1 ≤ d) : (2 : Int) ^ d.toNat = 2 * 2 ^ (d - 1).toNat := by
  rw [show d.toNat = (d - 1).toNat + 1 by omega, Int.pow_succ, Int.mul_comm]
theorem two_mul_bd {t x : Int} (ht0 : 0 ≤ t) (ht : t ≤ 2048) (h0 : 0 ≤ x) (h1 : x ≤ 3328) : 0 ≤ t * x ∧ t * x ≤ 6815744 := by
  refine ⟨Int.mul_nonneg ht0 h0, ?_⟩
  have := Int.mul_le_mul ht h1 h0 (by omega)
  omega

theorem sq_core {t x : Int} (h0 : 0 ≤ t * x) (h1 : t * x ≤ 6815744) : Int.tmod (wrap64 (Int.tdiv (wrap64 (t * x + 1664)) 3329)) t = (t * x + 1664) / 3329 % t := by
  rw [w64 (x := t * x + 1664) (by omega) (by omega), Int.tdiv_eq_ediv_of_nonneg (by omega), w64 (x := (t * x + 1664) / 3329) (by omega) (by omega), Int.tmod_eq_emod_of_nonneg (by omega)]
theorem st_core {a y t : Int} (ht : 2 ≤ t) (h0 : 0 ≤ 3329 * y + a) (h1 : 3329 * y + a ≤ 1000000000) (hy : -1000000 ≤ y ∧ y ≤ 1000000) : wrap64 (Int.tdiv (wrap64 ((wrap64 (3329 * y)) + a)) t) = (3329 * y + a) / t := by
  rw [w64 (x := 3329 * y) (by omega) (by omega), w64 (x := 3329 * y + a) (by omega) (by omega), Int.tdiv_eq_ediv_of_nonneg (by omega)]
  have h2 := Int.ediv_nonneg (a := 3329 * y + a) (b := t) (by omega) (by omega)
  have h3 := Int.ediv_le_self (a := 3329 * y + a) t (by omega)
  exact w64 (by omega) (by omega)
theorem spec_Squeeze_ev (x d : Int) : Ev (fun k => spec_Squeeze.f k x d) (squeezeV x d) := by
  unfold spec_Squeeze.f
  simp only [l01In_eq, Option.bind_some]
  by_cases hx : 0 ≤ x ∧ x ≤ 3328
  · refine Ev.pos (by simpa using hx) ?_
    by_cases hd : 1 ≤ d ∧ d ≤ 11
    · rw [squeezeV_in hx hd]
      have hb := two_bd hd.1 hd.2
      have hm := two_mul_bd (by omega) hb.2 hx.1 hx.2
      refine Ev.step (f := fun k => (spec_l11Two.f k d).bind fun t103 => ((spec_l11Two.f k d).bind fun t104 => (if t104 = 0 then (none) else (some (Int.tmod (wrap64 (Int.tdiv (wrap64 ((wrap64 (t103 * x)) + 1664)) 3329)) t104))))) (fun k => ?_) ?_
      · simp only [spec_Squeeze.j0]
        rw [if_neg (by simpa using hd)]
      · refine Ev.bind (l11Two_ev d (by omega)) (Ev.bind (l11Two_ev d (by omega)) (Ev.neg (by omega) (Ev.const ?_)))
        rw [w64 (x := 2 ^ d.toNat * x) (by omega) (by omega), sq_core (by omega) (by omega)]
    · rw [squeezeV_out (fun h => hd h.2)]
      refine Ev.step (f := fun _ => some 0) (fun k => ?_) (Ev.now _)
      simp only [spec_Squeeze.j0]
      rw [if_pos (by rw [decide_eq_false hd]; rfl)]
  · rw [squeezeV_out (fun h => hx h.1)]
    refine Ev.neg (by simpa using hx) ?_
    refine Ev.step (f := fun _ => some 0) (fun k => ?_) (Ev.now _)
    simp only [spec_Squeeze.j0, if_true]

theorem impl_Squeeze_eq (x d : Int) : impl_Squeeze.f x d = some (squeezeV x d) := by
  unfold impl_Squeeze.f
  simp only [in_eq, Option.bind_some]
  by_cases hx : 0 ≤ x ∧ x ≤ 3328
  · rw [if_pos (by simpa using hx)]
    by_cases hd : 1 ≤ d ∧ d ≤ 11
    · have hb := two_bd hd.1 hd.2
      have hm := two_mul_bd (by omega) hb.2 hx.1 hx.2
      rw [squeezeV_in hx hd, if_pos (decide_eq_true hd), if_pos (by omega), shl64 _ _ (by omega), shl64 _ _ (by omega), Int.one_mul, Int.mul_comm x,
        w64 (x := 2 ^ d.toNat) (by omega) (by omega), if_neg (by omega), w64 (x := 2 ^ d.toNat * x) (by omega) (by omega), sq_core (by omega) (by omega)]
    · rw [squeezeV_out (fun h => hd h.2), if_neg (by rw [decide_eq_false hd]; decide)]
  · rw [squeezeV_out (fun h => hx h.1), if_neg (by rw [decide_eq_false hx]; decide)]

theorem spec_Stretch_ev (y d : Int) : Ev (fun k => spec_Stretch.f k y d) (stretchV y d) := by
  unfold spec_Stretch.f
  simp only [l01In_eq, Option.bind_some]
  by_cases hd : 1 ≤ d ∧ d ≤ 11
  · have hb := two_bd hd.1 hd.2
    have hh := two_half hd.1
    refine Ev.pos (by simpa using hd) (Ev.bind (l11Two_ev d (by omega)) ?_)
    rw [w64 (by omega) (by omega)]
    by_cases hy : 0 ≤ y ∧ y ≤ 2 ^ d.toNat - 1
    · rw [stretchV_in hd hy]
      refine Ev.step (f := fun k => (spec_l11Two.f k (wrap64 (d - 1))).bind fun t112 => ((spec_l11Two.f k d).bind fun t113 => (if t113 = 0 then (none) else (some (wrap64 (Int.tdiv (wrap64 ((wrap64 (3329 * y)) + t112)) t113)))))) (fun k => ?_) ?_
      · simp only [spec_Stretch.j0]
        rw [if_neg (by simpa using hy)]
      · rw [w64 (x := d - 1) (by omega) (by omega)]
        refine Ev.bind (l11Two_ev (d - 1) (by omega)) (Ev.bind (l11Two_ev d (by omega)) (Ev.neg (by omega) (Ev.const ?_)))
        rw [st_core (by omega) (by omega) (by omega) (by omega)]
    · rw [stretchV_out (fun h => hy h.2)]
      refine Ev.step (f := fun _ => some 0) (fun k => ?_) (Ev.now _)
      simp only [spec_Stretch.j0]
      rw [if_pos (by rw [decide_eq_false hy]; rfl)]
  · rw [stretchV_out (fun h => hd h.1)]
    refine Ev.neg (by simpa using hd) ?_
    refine Ev.step (f := fun _ => some 0) (fun k => ?_) (Ev.now _)
    simp only [spec_Stretch.j0, if_true]

theorem impl_Stretch_eq (y d : Int) : impl_Stretch.f y d = some (stretchV y d) := by
  unfold impl_Stretch.f
  simp only [in_eq, Option.bind_some]
  by_cases hd : 1 ≤ d ∧ d ≤ 11
  · have hb := two_bd hd.1 hd.2
    have hh := two_half hd.1
    rw [if_pos (by simpa using hd), if_pos (by omega), shl64 1 d (by omega), Int.one_mul, w64 (x := 2 ^ d.toNat) (by omega) (by omega), w64 (x := 2 ^ d.toNat - 1) (by omega) (by omega), w64 (x := d - 1) (by omega) (by omega)]
    by_cases hy : 0 ≤ y ∧ y ≤ 2 ^ d.toNat - 1
    · rw [stretchV_in hd hy, if_pos (decide_eq_true hy), if_pos (by omega), shl64 1 (d - 1) (by omega), shr64 _ d (by omega), Int.one_mul, w64 (x := 2 ^ (d - 1).toNat) (by omega) (by omega), w64 (x := 3329 * y) (by omega) (by omega), w64 (by omega) (by omega)]
    · rw [stretchV_out (fun h => hy h.2), if_neg (by rw [decide_eq_false hy]; decide)]
  · rw [stretchV_out (fun h => hd h.1), if_neg (by rw [decide_eq_false hd]; decide)]
end Go.Proofs.Ytnckhligcdieaaa.Pure
namespace Go.Proofs.Ytnckhligcdieaaa.Pure
open Go.RowKit Go.Proofs.YtnckhligcdieaaaW.PrintWords Go.Proofs.YtnckhligcdieaaaW.PrintLast Go.Proofs.YtnckhligcdieaaaW.PrintMore Go.Proofs.Ytnckhligcdieaaa.P

def inQ (x : Int) : Bool := decide (0 ≤ x ∧ x ≤ 3328)
def polyOk (l : List Int) : Bool := decide (l.length = 256) && l.all inQ
theorem polyOk_len {l : List Int} (h : polyOk l = true) : l.length = 256 := by
  unfold polyOk at h; rw [Bool.and_eq_true] at h; exact of_decide_eq_true h.1
theorem polyOk_mem {l : List Int} (h : polyOk l = true) {x : Int} (hx : x ∈ l) : 0 ≤ x ∧ x ≤ 3328 := by
  unfold polyOk at h; rw [Bool.and_eq_true] at h
  exact of_decide_eq_true (List.all_eq_true.mp h.2 x hx)
theorem polyOk_get {l : List Int} (h : polyOk l = true) (i : Nat) (hi : i < l.length) : 0 ≤ l[i] ∧ l[i] ≤ 3328 := polyOk_mem h (List.getElem_mem hi)
theorem polyOk_mk {l : List Int} (h : l.length = 256) (hx : ∀ x ∈ l, 0 ≤ x ∧ x ≤ 3328) : polyOk l = true := by
  unfold polyOk; rw [Bool.and_eq_true]
  exact ⟨decide_eq_true h, List.all_eq_true.mpr fun x hm => decide_eq_true (hx x hm)⟩

theorem spec_PolyOk_ev (l : List Int) : Ev (fun k => spec_PolyOk.f k l) (polyOk l) := by
  unfold spec_PolyOk.f polyOk
  by_cases hl : l.length = 256
  · refine Ev.pos (by omega) ?_
    rw [decide_eq_true hl, Bool.true_and]
    refine Ev.upTo (g := fun i k => spec_PolyOk.l0 k l (i : Int)) (r := fun i => (l.drop i).all inQ) l.length ?_ ?_ 0 (by omega)
    · intro i hi h
      simp only [drop_all inQ l i hi]
      cases hb : inQ l[i] with
      | true =>
        rw [Bool.true_and]
        refine Ev.step (fun k => ?_) h
        simp only [spec_PolyOk.l0, l01In_eq, Option.bind_some]
        rw [if_pos (by omega), if_pos (by omega), rd_get l i hi, if_pos (show decide (0 ≤ l[i] ∧ l[i] ≤ 3328) = true from hb), w64s i (by omega)]
      | false =>
        rw [Bool.false_and]
        refine Ev.step (f := fun _ => some false) (fun k => ?_) (Ev.now _)
        simp only [spec_PolyOk.l0, l01In_eq, Option.bind_some]
        rw [if_pos (by omega), if_pos (by omega), rd_get l i hi, if_neg (by unfold inQ at hb; rw [hb]; decide)]
    · refine Ev.step (f := fun _ => some ((l.drop l.length).all inQ)) (fun k => ?_) (Ev.now _)
      simp only [spec_PolyOk.l0]
      rw [if_neg (by omega)]
      simp
  · refine Ev.neg (by omega) ?_
    rw [decide_eq_false hl, Bool.false_and]
    exact Ev.now _

theorem impl_PolyOk_ev (l : List Int) (hl : l.length ≤ 35184372088832) : Ev (fun k => impl_PolyOk.f k l) (polyOk l) := by
  unfold impl_PolyOk.f polyOk
  have h := Ev.upTo (g := fun i k => impl_PolyOk.l0 k l l (l.length : Int) (i : Int)) (r := fun i => decide (l.length = 256) && (l.drop i).all inQ) l.length ?_ ?_ 0 (by omega)
  · simpa using h
  · intro i hi h
    simp only [drop_all inQ l i hi]
    cases hb : inQ l[i] with
    | true =>
      rw [Bool.true_and]
      refine Ev.step (fun k => ?_) h
      simp only [impl_PolyOk.l0, in_eq, Option.bind_some]
      rw [if_pos (by omega), if_pos (by omega), if_pos (by omega), rd_get l i hi, if_pos (show decide (0 ≤ l[i] ∧ l[i] ≤ 3328) = true from hb), w64s i (by omega)]
    | false =>
      rw [Bool.false_and, Bool.and_false]
      refine Ev.step (f := fun _ => some false) (fun k => ?_) (Ev.now _)
      simp only [impl_PolyOk.l0, in_eq, Option.bind_some]
      rw [if_pos (by omega), if_pos (by omega), if_pos (by omega), rd_get l i hi, if_neg (by unfold inQ at hb; rw [hb]; decide)]
  · refine Ev.step (f := fun _ => some (decide (l.length = 256) && (l.drop l.length).all inQ)) (fun k => ?_) (Ev.now _)
    simp only [impl_PolyOk.l0]
    rw [if_neg (by omega)]
    simp
    by_cases h : l.length = 256
    · rw [decide_eq_true h, h]; rfl
    · rw [decide_eq_false h]; rw [beq_eq_false_iff_ne]; omega

end Go.Proofs.Ytnckhligcdieaaa.Pure
namespace Go.Proofs.Ytnckhligcdieaaa.Pure
open Go.RowKit Go.Proofs.YtnckhligcdieaaaW.PrintWords Go.Proofs.YtnckhligcdieaaaW.PrintLast Go.Proofs.YtnckhligcdieaaaW.PrintMore Go.Proofs.Ytnckhligcdieaaa.P

def vec (f : Nat → Int) : List Int := (List.range 256).map f
theorem vec_length (f : Nat → Int) : (vec f).length = 256 := by simp [vec]
theorem vec_get (f : Nat → Int) (i : Nat) (h : i < (vec f).length) : (vec f)[i] = f i := by simp [vec]
theorem vec_rd (f : Nat → Int) (i : Nat) (h : i < 256) : rd (vec f) (i : Int) = f i := by rw [rd_get _ _ (by rw [vec_length]; exact h), vec_get]
theorem vec_congr {f g : Nat → Int} (h : ∀ i, i < 256 → f i = g i) : vec f = vec g := by
  apply List.ext_getElem
  · rw [vec_length, vec_length]
  · intro i h1 h2
    rw [vec_get, vec_get]
    exact h i (by rw [vec_length] at h1; exact h1)
theorem vec_set (f : Nat → Int) (n : Nat) (v : Int) : (vec f).set n v = vec fun i => if i = n then v else f i := by
  apply List.ext_getElem
  · rw [List.length_set, vec_length, vec_length]
  · intro i h1 h2
    rw [List.getElem_set, vec_get, vec_get]
    by_cases h : n = i
    · rw [if_pos h, if_pos h.symm]
    · rw [if_neg h, if_neg (fun e => h e.symm)]
theorem vec_of {l : List Int} (h : l.length = 256) : l = vec fun i => rd l i := by
  apply List.ext_getElem
  · rw [vec_length, h]
  · intro i h1 h2
    rw [vec_get, rd_get l i h1]
theorem vec_replicate (d : Int) : List.replicate 256 d = vec fun _ => d := by
  apply List.ext_getElem
  · rw [vec_length, List.length_replicate]
  · intro i h1 h2
    rw [vec_get, List.getElem_replicate]
theorem vec_ok {f : Nat → Int} (h : ∀ i, i < 256 → 0 ≤ f i ∧ f i ≤ 3328) : polyOk (vec f) = true := by
  refine polyOk_mk (vec_length f) fun x hx => ?_
  obtain ⟨i, hi, rfl⟩ := List.mem_map.mp hx
  exact h i (List.mem_range.mp hi)
theorem vec_ok_get {f : Nat → Int} (h : polyOk (vec f) = true) (i : Nat) (hi : i < 256) : 0 ≤ f i ∧ f i ≤ 3328 := by
  have := polyOk_get h i (by rw [vec_length]; exact hi)
  rwa [vec_get] at this
/-- A right polynomial is 256 numbers in their range. -/
theorem poly_vec {l : List Int} (h : polyOk l = true) : ∃ f, l = vec f ∧ ∀ i, i < 256 → 0 ≤ f i ∧ f i ≤ 3328 := by
  have e := vec_of (polyOk_len h)
  refine ⟨_, e, fun i hi => ?_⟩
  rw [e] at h
  exact vec_ok_get h i hi
/-- The same, each place 0 beyond the last. -/
theorem poly_vec' {l : List Int} (h : polyOk l = true) : ∃ f, l = vec f ∧ ∀ i, 0 ≤ f i ∧ f i ≤ 3328 := by
  obtain ⟨f, rfl, hf⟩ := poly_vec h
  refine ⟨fun i => if i < 256 then f i else 0, vec_congr fun i hi => (if_pos hi).symm, fun i => ?_⟩
  show 0 ≤ (if i < 256 then f i else 0) ∧ (if i < 256 then f i else 0) ≤ 3328
  split
  · exact hf i ‹_›
  · omega

theorem modQ_eq (n : Int) (h1 : -9223372036854775808 ≤ n) (h2 : n ≤ 9223372036854775807) : impl_modQ.f n = some (n % 3329) := by
  unfold impl_modQ.f
  congr 1
  by_cases h : 0 ≤ n
  · rw [Int.tmod_eq_emod_of_nonneg h, w64 (by omega) (by omega), Int.tmod_eq_emod_of_nonneg (by omega)]
    omega
  · have e : Int.tmod n 3329 = -((-n) % 3329) := by
      have := Int.neg_tmod (-n) 3329
      rw [Int.neg_neg] at this
      rw [this, Int.tmod_eq_emod_of_nonneg (by omega)]
    rw [e, w64 (by omega) (by omega), Int.tmod_eq_emod_of_nonneg (by omega)]
    omega

theorem mul_bd {x y : Int} (hx : 0 ≤ x ∧ x ≤ 3328) (hy : 0 ≤ y ∧ y ≤ 3328) : 0 ≤ x * y ∧ x * y ≤ 11075584 := by
  refine ⟨Int.mul_nonneg hx.1 hy.1, ?_⟩
  have := Int.mul_le_mul hx.2 hy.2 hy.1 (by omega)
  omega
theorem impl_PolyAdd_ev (a b : Nat → Int) (ha : ∀ i, 0 ≤ a i ∧ a i ≤ 3328) (hb : ∀ i, 0 ≤ b i ∧ b i ≤ 3328) : Ev (fun k => impl_PolyAdd.f k (vec a) (vec b)) (vec fun i => (a i + b i) % 3329) := by
  have key : Ev (fun k => impl_each_PolyAdd_1.f k (vec a) (vec b)) (vec fun i => (a i + b i) % 3329) := by
    unfold impl_each_PolyAdd_1.f
    have oka := vec_ok (f := a) fun i _ => ha i
    have okb := vec_ok (f := b) fun i _ => hb i
    have la := vec_length a
    have lb := vec_length b
    refine Ev.bind (oka ▸ impl_PolyOk_ev (vec a) (by omega)) (Ev.pos rfl (Ev.bind (okb ▸ impl_PolyOk_ev (vec b) (by omega)) ?_))
    refine Ev.step (f := fun k => impl_each_PolyAdd_1.l0 k (vec a) (vec b) (List.replicate 256 0) ((256 : Nat) : Int) 0) (fun k => ?_) ?_
    · simp only [impl_each_PolyAdd_1.j0, Option.bind_some]
      rw [if_neg (by decide), if_pos (by omega), List.length_replicate]
    · rw [vec_replicate]
      have key := Ev.up (g := fun i k => impl_each_PolyAdd_1.l0 k (vec a) (vec b) (vec fun n => if n < i then (a n + b n) % 3329 else 0) ((256 : Nat) : Int) (i : Int)) (r := vec fun i => (a i + b i) % 3329) 256 ?_ ?_ 0 (by omega)
      · have e : (vec fun _ => (0 : Int)) = vec fun n => if n < 0 then (a n + b n) % 3329 else 0 := vec_congr fun n _ => by rw [if_neg (by omega)]
        rw [e]; exact key
      · intro i hi h
        refine Ev.step (fun k => ?_) h
        have h1 := ha i
        have h2 := hb i
        simp only [impl_each_PolyAdd_1.l0, impl_PolyAdd_1.f, Option.bind_some]
        rw [if_pos (by omega), if_pos (by omega), if_pos (by omega), if_pos (by omega), vec_rd a i hi, vec_rd b i hi, w64 (x := a i + b i) (by omega) (by omega), modQ_eq _ (by omega) (by omega), Option.bind_some, if_pos (by rw [vec_length]; omega), Int.toNat_natCast, vec_set, w64s i (by omega)]
        have e : (vec fun n => if n = i then (a i + b i) % 3329 else if n < i then (a n + b n) % 3329 else 0) = vec fun n => if n < i + 1 then (a n + b n) % 3329 else 0 := by
          refine vec_congr fun n _ => ?_
          by_cases h1 : n = i
          · subst h1; rw [if_pos rfl, if_pos (by omega)]
          · rw [if_neg h1]
            by_cases h2 : n < i
            · rw [if_pos h2, if_pos (by omega)]
            · rw [if_neg h2, if_neg (by omega)]
        rw [e]
      · refine Ev.step (f := fun _ => some (vec fun i => (a i + b i) % 3329)) (fun k => ?_) (Ev.now _)
        simp only [impl_each_PolyAdd_1.l0]
        rw [if_neg (by omega)]
        exact congrArg some (vec_congr fun n hn => if_pos hn)
  unfold impl_PolyAdd.f
  exact Ev.bind key (Ev.now _)

end Go.Proofs.Ytnckhligcdieaaa.Pure
namespace Go.Proofs.Ytnckhligcdieaaa.Pure
open Go.RowKit Go.Proofs.YtnckhligcdieaaaW.PrintWords Go.Proofs.YtnckhligcdieaaaW.PrintLast Go.Proofs.YtnckhligcdieaaaW.PrintMore Go.Proofs.Ytnckhligcdieaaa.P

def natL (l : List Int) : List Nat := l.map Int.toNat
theorem natL_length (l : List Int) : (natL l).length = l.length := by simp [natL]
def packV (b : Nat) (l : List Int) : ByteArray := strOfNums (bytesL ((l.length * b + 7) / 8) (valB b (natL l)))
def fitsB (b : Nat) (x : Int) : Bool := decide (0 ≤ x ∧ x ≤ 2 ^ b - 1)
def packR (l : List Int) (b : Int) : ByteArray × Bool :=
  if (1 ≤ b ∧ b ≤ 12) ∧ l.all (fitsB b.toNat) = true then (packV b.toNat l, true) else (⟨#[]⟩, false)

theorem fits_nat {b : Nat} {l : List Int} (h : l.all (fitsB b) = true) : ∀ x ∈ natL l, x < 2 ^ b := by
  intro x hx
  obtain ⟨y, hy, rfl⟩ := List.mem_map.mp hx
  have h2 := of_decide_eq_true (List.all_eq_true.mp h y hy)
  have h3 : ((2 ^ b : Nat) : Int) = (2 : Int) ^ b := by simp
  omega
/-- The first i numbers, as one. -/
def valT (b : Nat) (l : List Int) (i : Nat) : Nat := valB b ((natL l).take i)
theorem valT_succ (b : Nat) (l : List Int) (i : Nat) (h : i < l.length) : valT b l (i + 1) = valT b l i + 2 ^ (b * i) * l[i].toNat := by
  unfold valT
  rw [valB_take_succ b (natL l) i (by rw [natL_length]; exact h)]
  simp [natL]
theorem valT_lt {b : Nat} {l : List Int} (h : l.all (fitsB b) = true) (i : Nat) (hi : i ≤ l.length) : valT b l i < 2 ^ (b * i) := by
  have := valB_lt b ((natL l).take i) fun x hx => fits_nat h x (List.mem_of_mem_take hx)
  rw [List.length_take, natL_length, Nat.min_eq_left hi] at this
  exact this
theorem valT_all (b : Nat) (l : List Int) : valT b l l.length = valB b (natL l) := by
  unfold valT; rw [List.take_of_length_le (by rw [natL_length]; exact Nat.le_refl _)]
theorem get_nat {b : Nat} {l : List Int} (h : l.all (fitsB b) = true) (i : Nat) (hi : i < l.length) : ∃ n : Nat, l[i] = (n : Int) ∧ n < 2 ^ b := by
  have h2 := of_decide_eq_true (List.all_eq_true.mp h l[i] (List.getElem_mem hi))
  have h3 : ((2 ^ b : Nat) : Int) = (2 : Int) ^ b := by simp
  exact ⟨l[i].toNat, by omega, by omega⟩

theorem tdiv_nat (m c : Nat) : Int.tdiv (m : Int) (c : Int) = ((m / c : Nat) : Int) := by
  rw [Int.tdiv_eq_ediv_of_nonneg (by omega)]; rfl
theorem tmod_nat (m c : Nat) : Int.tmod (m : Int) (c : Int) = ((m % c : Nat) : Int) := by
  rw [Int.tmod_eq_emod_of_nonneg (by omega)]; rfl
theorem tdiv8 (m : Nat) : Int.tdiv (m : Int) 8 = ((m / 8 : Nat) : Int) := tdiv_nat m 8
theorem tmod8 (m : Nat) : Int.tmod (m : Int) 8 = ((m % 8 : Nat) : Int) := tmod_nat m 8
theorem w64n (m : Nat) (h : m ≤ 9223372036854775807) : wrap64 (m : Int) = (m : Int) := w64 (by omega) (by omega)
theorem i64_and1 (n : Nat) (h : n < 2 ^ 62) : Go.bits .and .i64 (n : Int) 1 = ((n % 2 : Nat) : Int) := by
  have := bits_mask .i64 63 (by decide) (fun n h0 h1 => by rw [IntKind.wrap_i64]; omega) 1 (by decide) (n : Int) (by omega) (by
    have : ((2 ^ 62 : Nat) : Int) = 2 ^ 62 := by simp
    omega)
  simpa using this
theorem u8_and1 (n : Nat) (h : n < 256) : Go.bits .and .u8 (n : Int) 1 = ((n % 2 : Nat) : Int) := by
  have := bits_mask .u8 8 (by decide) wraps_u8 1 (by decide) (n : Int) (by omega) (by omega)
  simpa using this
theorem u8_or_bit (a t b : Nat) (ha : a < 2 ^ t) (ht : t ≤ 7) (hb : b ≤ 1) : Go.bits .or .u8 (a : Int) ((b * 2 ^ t : Nat) : Int) = ((a + b * 2 ^ t : Nat) : Int) := by
  have h7 : 2 ^ t ≤ 128 := Nat.pow_le_pow_right (n := 2) (by omega) ht
  have hb2 : b * 2 ^ t ≤ 2 ^ t := by
    have := Nat.mul_le_mul_right (2 ^ t) hb
    omega
  rw [(bits_nat .u8 8 (by decide) wraps_u8 a (b * 2 ^ t) (by omega) (by omega)).2, Nat.or_comm, Nat.mul_comm b, ← Nat.two_pow_add_eq_or_of_lt ha b, Nat.add_comm]
theorem shl_u8_bit (b t : Nat) (ht : t ≤ 7) (hb : b ≤ 1) : shl .u8 (b : Int) (t : Int) = ((b * 2 ^ t : Nat) : Int) := by
  have h7 : 2 ^ t ≤ 128 := Nat.pow_le_pow_right (n := 2) (by omega) ht
  have hb2 : b * 2 ^ t ≤ 2 ^ t := by
    have := Nat.mul_le_mul_right (2 ^ t) hb
    omega
  unfold shl
  rw [Int.toNat_natCast, show min t IntKind.u8.bits = t by simp [IntKind.bits]; omega, IntKind.wrap_u8]
  have : ((b * 2 ^ t : Nat) : Int) = (b : Int) * 2 ^ t := by simp
  omega
theorem shr_nat (k : IntKind) (n t : Nat) (ht : t ≤ k.bits) : shr k (n : Int) (t : Int) = ((n / 2 ^ t : Nat) : Int) := by
  unfold shr
  rw [Int.toNat_natCast, Nat.min_eq_left ht]
  simp
theorem mod_succ_bit (x k : Nat) : x % 2 ^ (k + 1) = x % 2 ^ k + 2 ^ k * (x / 2 ^ k % 2) := by
  rw [Nat.pow_succ, Nat.mod_mul]

theorem packed_bit (L V b i j x : Nat) (hV : V < 2 ^ (b * i)) :
    (bytesL L (V + 2 ^ (b * i) * (x % 2 ^ j))).set ((i * b + j) / 8) (Go.bits .or .u8 (((V + 2 ^ (b * i) * (x % 2 ^ j)) / 256 ^ ((i * b + j) / 8) % 256 : Nat) : Int) (shl .u8 (((x / 2 ^ j % 2 : Nat) : Int) % 256) (((i * b + j) % 8 : Nat) : Int)))
      = bytesL L (V + 2 ^ (b * i) * (x % 2 ^ (j + 1))) := by
  obtain ⟨m, hm⟩ : ∃ m, i * b + j = m := ⟨_, rfl⟩
  have hmb : b * i + j = m := by rw [← hm, Nat.mul_comm]
  obtain ⟨S, hSe⟩ : ∃ S, V + 2 ^ (b * i) * (x % 2 ^ j) = S := ⟨_, rfl⟩
  obtain ⟨u, hu⟩ : ∃ u, x / 2 ^ j % 2 = u := ⟨_, rfl⟩
  have hu1 : u ≤ 1 := by omega
  have hS : S < 2 ^ m := by
    have h1 : x % 2 ^ j < 2 ^ j := Nat.mod_lt _ (Nat.two_pow_pos j)
    have h2 : 2 ^ (b * i) * (x % 2 ^ j) + 2 ^ (b * i) ≤ 2 ^ (b * i) * 2 ^ j := by rw [← Nat.mul_succ]; exact Nat.mul_le_mul_left _ h1
    rw [← hSe, ← hmb, Nat.pow_add]
    exact Nat.lt_of_lt_of_le (Nat.lt_of_lt_of_le (Nat.add_lt_add_right hV _) (by rw [Nat.add_comm]; exact Nat.le_refl _)) h2
  have hnext : V + 2 ^ (b * i) * (x % 2 ^ (j + 1)) = S + u * 2 ^ m := by
    rw [mod_succ_bit, Nat.mul_add, ← hSe, ← hmb, hu, Nat.pow_add, Nat.mul_comm u, Nat.mul_assoc, Nat.add_assoc]
  have hold : S / 256 ^ (m / 8) < 2 ^ (m % 8) := by
    rw [Nat.div_lt_iff_lt_mul (Nat.pow_pos (by omega)), pow256, ← Nat.pow_add, show m % 8 + 8 * (m / 8) = m by omega]; exact hS
  have h128 : 2 ^ (m % 8) ≤ 128 := Nat.pow_le_pow_right (n := 2) (by omega) (show m % 8 ≤ 7 by omega)
  have hset := bytesL_bit L S m u hS hu1
  rw [hm, hSe, hnext, hu, show ((u : Nat) : Int) % 256 = ((u : Nat) : Int) by omega, shl_u8_bit u (m % 8) (by omega) hu1, Nat.mod_eq_of_lt (Nat.lt_of_lt_of_le hold (Nat.le_trans h128 (by omega))), u8_or_bit _ (m % 8) u hold (by omega) hu1]
  rw [Nat.mod_eq_of_lt (Nat.lt_of_lt_of_le hold (Nat.le_trans h128 (by omega)))] at hset
  exact hset

theorem impl_packed_in (l : List Int) (b : Nat) (hb1 : 1 ≤ b) (hb : b ≤ 12) (hl : l.length ≤ 1099511627776) (hf : l.all (fitsB b) = true) (i : Nat) (hi : i < l.length) {r : ByteArray}
    (h : Ev (fun k => impl_packed.l0 k (b : Int) (bytesL ((l.length * b + 7) / 8) (valT b l (i + 1))) l (l.length : Int) ((i + 1 : Nat) : Int)) r) :
    Ev (fun k => impl_packed.l1 k (b : Int) (bytesL ((l.length * b + 7) / 8) (valT b l i)) (i : Int) l[i] l (l.length : Int) (i : Int) (b : Int) 0) r := by
  obtain ⟨x, hx, hxb⟩ := get_nat hf i hi
  have hib : i * b + b ≤ l.length * b := by rw [← Nat.succ_mul]; exact Nat.mul_le_mul_right _ hi
  have hlb : l.length * b ≤ 13194139533312 := Nat.le_trans (Nat.mul_le_mul_left _ hb) (by omega)
  have hV := valT_lt hf i (by omega)
  have h12 : 2 ^ b ≤ 4096 := Nat.pow_le_pow_right (n := 2) (by omega) hb
  have hx12 : x < 4096 := by omega
  have e := Ev.up (g := fun j k => impl_packed.l1 k (b : Int) (bytesL ((l.length * b + 7) / 8) (valT b l i + 2 ^ (b * i) * (x % 2 ^ j))) (i : Int) l[i] l (l.length : Int) (i : Int) (b : Int) (j : Int)) (r := r) b ?_ ?_ 0 (by omega)
  · simpa [Nat.mod_one] using e
  · intro j hj h'
    refine Ev.step (fun k => ?_) h'
    have n1 : i * b ≤ 9223372036854775807 := by clear hV hx h h12; omega
    have n2 : i * b + j ≤ 9223372036854775807 := by clear hV hx h h12; omega
    have n3 : (i * b + j) / 8 ≤ 9223372036854775807 := by clear hV hx h h12; omega
    have q0 : (i * b + j) / 8 < (l.length * b + 7) / 8 := by clear hV hx h h12; omega
    have q1 : (((i * b + j) / 8 : Nat) : Int) < (((l.length * b + 7) / 8 : Nat) : Int) := Int.ofNat_lt.mpr q0
    have j64 : j ≤ IntKind.i64.bits := by clear hV hx h h12; simp [IntKind.bits]; omega
    have jw := w64s j (by clear hV hx h h12; omega)
    have e1 : wrap64 ((wrap64 ((i : Int) * (b : Int))) + (j : Int)) = ((i * b + j : Nat) : Int) := by
      have e0 : (i : Int) * (b : Int) = ((i * b : Nat) : Int) := by simp
      rw [e0, w64n (i * b) n1]
      exact w64n (i * b + j) n2
    have e2 : wrap64 (((i * b + j) / 8 : Nat) : Int) = (((i * b + j) / 8 : Nat) : Int) := w64n _ n3
    have e3 : Go.bits .and .i64 ((x / 2 ^ j : Nat) : Int) 1 = ((x / 2 ^ j % 2 : Nat) : Int) := i64_and1 _ (Nat.lt_of_le_of_lt (Nat.div_le_self _ _) (Nat.lt_trans hx12 (by decide)))
    have e4 := packed_bit ((l.length * b + 7) / 8) (valT b l i) b i j x hV
    simp only [impl_packed.l1]
    rw [e1, tdiv8, tmod8, e2, if_pos (Int.ofNat_lt.mpr hj), if_pos (Int.natCast_nonneg _), if_pos (by rw [bytesL_length]; exact q1), if_pos (Int.natCast_nonneg _), if_pos (Int.natCast_nonneg _), Int.toNat_natCast,
      rd_get _ _ (by rw [bytesL_length]; exact q0), bytesL_get, hx, shr_nat .i64 x j j64, e3, e4, jw]
  · refine Ev.step (f := fun k => impl_packed.l0 k (b : Int) (bytesL ((l.length * b + 7) / 8) (valT b l (i + 1))) l (l.length : Int) ((i + 1 : Nat) : Int)) (fun k => ?_) h
    simp only [impl_packed.l1]
    rw [if_neg (by omega), w64s i (by omega), valT_succ b l i hi, Nat.mod_eq_of_lt hxb, hx, Int.toNat_natCast]

theorem impl_packed_ev (l : List Int) (b : Nat) (hb1 : 1 ≤ b) (hb : b ≤ 12) (hl : l.length ≤ 1099511627776) (hf : l.all (fitsB b) = true) : Ev (fun k => impl_packed.f k l (b : Int)) (packV b l) := by
  have hlb : l.length * b ≤ 13194139533312 := Nat.le_trans (Nat.mul_le_mul_left _ hb) (by omega)
  have e1 : wrap64 (Int.tdiv (wrap64 ((wrap64 ((l.length : Int) * (b : Int))) + 7)) 8) = (((l.length * b + 7) / 8 : Nat) : Int) := by
    have e0 : (l.length : Int) * (b : Int) = ((l.length * b : Nat) : Int) := by simp
    rw [e0, w64n (l.length * b) (by omega), show ((l.length * b : Nat) : Int) + 7 = ((l.length * b + 7 : Nat) : Int) by omega, w64n (l.length * b + 7) (by omega), tdiv8, w64n ((l.length * b + 7) / 8) (by omega)]
  unfold impl_packed.f packV
  rw [e1, Int.toNat_natCast]
  refine Ev.pos (by omega) (Ev.pos (by omega) ?_)
  rw [← valT_all]
  have h := Ev.up (g := fun i k => impl_packed.l0 k (b : Int) (bytesL ((l.length * b + 7) / 8) (valT b l i)) l (l.length : Int) (i : Int)) (r := strOfNums (bytesL ((l.length * b + 7) / 8) (valT b l l.length))) l.length ?_ ?_ 0 (by omega)
  · simpa [valT, valB, bytesL_zero] using h
  · intro i hi h
    refine Ev.step (fun k => ?_) (impl_packed_in l b hb1 hb hl hf i hi h)
    simp only [impl_packed.l0]
    rw [if_pos (by omega), if_pos (by omega), if_pos (by omega), rd_get l i hi]
  · refine Ev.step (f := fun _ => some (strOfNums (bytesL ((l.length * b + 7) / 8) (valT b l l.length)))) (fun k => ?_) (Ev.now _)
    simp only [impl_packed.l0]
    rw [if_neg (by omega)]

theorem not_all {α : Type} {p : α → Bool} {l : List α} (h : ¬ l.all p = true) : ∃ i, ∃ h : i < l.length, p l[i] = false := by
  rw [List.all_eq_true] at h
  simp only [Classical.not_forall] at h
  obtain ⟨x, hx, hp⟩ := h
  obtain ⟨i, hi, rfl⟩ := List.mem_iff_getElem.mp hx
  exact ⟨i, hi, by simpa using hp⟩

set_option maxHeartbeats 1000000 in
theorem spec_Pack_l2 (l : List Int) (b : Nat) (hb1 : 1 ≤ b) (hb : b ≤ 12) (hl : l.length ≤ 1099511627776) (hf : l.all (fitsB b) = true) (i : Nat) (hi : i < l.length) {r : ByteArray × Bool}
    (h : Ev (fun k => spec_Pack.l1 k l (b : Int) (bytesL (b * (i + 1) / 8) (valT b l (i + 1))) ((valT b l (i + 1) / 256 ^ (b * (i + 1) / 8) : Nat) : Int) ((b * (i + 1) % 8 : Nat) : Int) ((i + 1 : Nat) : Int)) r) :
    Ev (fun k => spec_Pack.l2 k l (b : Int) (bytesL (b * i / 8) (valT b l (i + 1))) ((valT b l (i + 1) / 256 ^ (b * i / 8) : Nat) : Int) ((b * (i + 1) - 8 * (b * i / 8) : Nat) : Int) (i : Int)) r := by
  have hlb : b * l.length ≤ 13194139533312 := Nat.le_trans (Nat.mul_le_mul_right _ hb) (by omega)
  have hib : b * (i + 1) ≤ b * l.length := Nat.mul_le_mul_left _ hi
  have hbs : b * (i + 1) = b * i + b := Nat.mul_succ b i
  have hV := valT_lt hf (i + 1) (by omega)
  refine Ev.upFrom (g := fun p k => spec_Pack.l2 k l (b : Int) (bytesL p (valT b l (i + 1))) ((valT b l (i + 1) / 256 ^ p : Nat) : Int) ((b * (i + 1) - 8 * p : Nat) : Int) (i : Int)) (b * i / 8) (b * (i + 1) / 8) ?_ ?_ (by omega)
  · intro p hp0 hp h'
    refine Ev.step (fun k => ?_) h'
    have hsmall : valT b l (i + 1) / 256 ^ p < 2 ^ 20 := by
      rw [Nat.div_lt_iff_lt_mul (Nat.pow_pos (by omega)), pow256, ← Nat.pow_add]
      exact Nat.lt_of_lt_of_le hV (Nat.pow_le_pow_right (by omega) (by omega))
    have e1 : Int.tmod ((valT b l (i + 1) / 256 ^ p : Nat) : Int) 256 % 256 = ((valT b l (i + 1) / 256 ^ p % 256 : Nat) : Int) := by
      rw [show (256 : Int) = ((256 : Nat) : Int) from rfl, tmod_nat]; omega
    have e2 : wrap64 (Int.tdiv ((valT b l (i + 1) / 256 ^ p : Nat) : Int) 256) = ((valT b l (i + 1) / 256 ^ (p + 1) : Nat) : Int) := by
      rw [show (256 : Int) = ((256 : Nat) : Int) from rfl, tdiv_nat, Nat.pow_succ, ← Nat.div_div_eq_div_mul, w64n (valT b l (i + 1) / 256 ^ p / 256) (by omega)]
    simp only [spec_Pack.l2]
    rw [if_pos (by omega), if_pos (by rw [bytesL_length]; omega), e1, e2, bytesL_snoc, w64 (by omega) (by omega)]
    congr 1
    omega
  · refine Ev.step (fun k => ?_) h
    simp only [spec_Pack.l2]
    rw [if_neg (by omega), w64s i (by omega)]
    congr 1
    omega

theorem spec_Pack_ev (l : List Int) (b : Int) (hl : l.length ≤ 1099511627776) : Ev (fun k => spec_Pack.f k l b) (packR l b) := by
  unfold spec_Pack.f packR
  simp only [l01In_eq, Option.bind_some]
  by_cases hb : 1 ≤ b ∧ b ≤ 12
  · refine Ev.pos (by simpa using hb) ?_
    obtain ⟨c, rfl⟩ : ∃ c : Nat, b = (c : Int) := ⟨b.toNat, by omega⟩
    rw [Int.toNat_natCast]
    have h12 : (2 : Int) ^ c ≤ 4096 := by
      have : ((2 ^ c : Nat) : Int) ≤ ((2 ^ 12 : Nat) : Int) := Int.ofNat_le.mpr (Nat.pow_le_pow_right (by omega) (by omega))
      simpa using this
    have h0 := two_pos c
    have es : wrap64 ((2 : Int) ^ c - 1) = 2 ^ c - 1 := w64 (by omega) (by omega)
    have e2 := l11Two_ev (c : Int) (by omega)
    rw [Int.toNat_natCast] at e2
    by_cases hf : l.all (fitsB c) = true
    · rw [if_pos ⟨hb, hf⟩]
      refine Ev.up (g := fun i k => spec_Pack.l0 k l (c : Int) (i : Int)) (r := (packV c l, true)) l.length ?_ ?_ 0 (by omega)
      · intro i hi h
        refine Ev.step (f := fun k => (spec_l11Two.f k (c : Int)).bind fun t148 => ((spec_l01In.f (rd l (i : Int)) 0 (wrap64 (t148 - 1))).bind fun t149 => (if t149 = true then (spec_Pack.l0 k l (c : Int) (wrap64 ((i : Int) + 1))) else (some ((⟨#[]⟩ : ByteArray), false))))) (fun k => ?_) ?_
        · simp only [spec_Pack.l0]
          rw [if_pos (by omega), if_pos (by omega)]
        · refine Ev.bind e2 ?_
          simp only [es, l01In_eq, Option.bind_some]
          rw [rd_get l i hi, w64s i (by omega)]
          exact Ev.pos (List.all_eq_true.mp hf _ (List.getElem_mem hi)) h
      · refine Ev.step (f := fun k => spec_Pack.l1 k l (c : Int) (([] : List Int)) 0 0 0) (fun k => ?_) ?_
        · simp only [spec_Pack.l0]
          rw [if_neg (by omega)]
        · have key := Ev.up (g := fun i k => spec_Pack.l1 k l (c : Int) (bytesL (c * i / 8) (valT c l i)) ((valT c l i / 256 ^ (c * i / 8) : Nat) : Int) ((c * i % 8 : Nat) : Int) (i : Int)) (r := (packV c l, true)) l.length ?_ ?_ 0 (by omega)
          · simpa [valT, valB, bytesL] using key
          · intro i hi h
            have hlb : c * l.length ≤ 13194139533312 := Nat.le_trans (Nat.mul_le_mul_right l.length (show c ≤ 12 by omega)) (by omega)
            have hib : c * (i + 1) ≤ c * l.length := Nat.mul_le_mul_left _ hi
            have hbs : c * (i + 1) = c * i + c := Nat.mul_succ c i
            obtain ⟨x, hx, hxb⟩ := get_nat hf i hi
            have hV := valT_lt hf i (by omega)
            have hq : valT c l i / 256 ^ (c * i / 8) < 2 ^ (c * i % 8) := by
              rw [Nat.div_lt_iff_lt_mul (Nat.pow_pos (by omega)), pow256, ← Nat.pow_add, show c * i % 8 + 8 * (c * i / 8) = c * i by omega]; exact hV
            have h128 : 2 ^ (c * i % 8) ≤ 128 := Nat.pow_le_pow_right (n := 2) (by omega) (show c * i % 8 ≤ 7 by omega)
            have h4096 : 2 ^ c ≤ 4096 := Nat.pow_le_pow_right (n := 2) (by omega) (show c ≤ 12 by omega)
            have hxc : x * 2 ^ (c * i % 8) ≤ 4096 * 128 := Nat.mul_le_mul (by omega) h128
            have ed : valT c l (i + 1) / 256 ^ (c * i / 8) = valT c l i / 256 ^ (c * i / 8) + x * 2 ^ (c * i % 8) := by
              have : 2 ^ (c * i) = 256 ^ (c * i / 8) * 2 ^ (c * i % 8) := by rw [pow256, ← Nat.pow_add]; congr 1; omega
              rw [valT_succ c l i hi, hx, Int.toNat_natCast, this, Nat.mul_assoc, Nat.add_mul_div_left _ _ (Nat.pow_pos (by omega)), Nat.mul_comm x]
            have eb : bytesL (c * i / 8) (valT c l i) = bytesL (c * i / 8) (valT c l (i + 1)) := by
              apply List.ext_getElem
              · simp [bytesL]
              · intro j h1 h2
                rw [bytesL_get, bytesL_get]
                congr 1
                have hj : j < c * i / 8 := by simpa [bytesL] using h1
                rw [valT_succ c l i hi]
                obtain ⟨d, hd⟩ : ∃ d, c * i = 8 * (j + 1) + d := ⟨c * i - 8 * (j + 1), by omega⟩
                have : 2 ^ (c * i) * l[i].toNat = 256 ^ j * (256 * (2 ^ d * l[i].toNat)) := by
                  rw [hd, Nat.pow_add, ← pow256, Nat.pow_succ]; simp only [Nat.mul_assoc]
                rw [this, Nat.add_mul_div_left _ _ (Nat.pow_pos (by omega)), Nat.add_mul_mod_self_left]
            have e3 := l11Two_ev ((c * i % 8 : Nat) : Int) (by omega)
            rw [Int.toNat_natCast] at e3
            refine Ev.step (f := fun k => (spec_l11Two.f k ((c * i % 8 : Nat) : Int)).bind fun t157 => (spec_Pack.l2 k l (c : Int) (bytesL (c * i / 8) (valT c l i)) (wrap64 (((valT c l i / 256 ^ (c * i / 8) : Nat) : Int) + (wrap64 ((rd l (i : Int)) * t157)))) (wrap64 (((c * i % 8 : Nat) : Int) + (c : Int))) (i : Int))) (fun k => ?_) (Ev.bind e3 ?_)
            · simp only [spec_Pack.l1]
              rw [if_pos (by omega), if_pos (by omega)]
            · have h2 := spec_Pack_l2 l c (by omega) (by omega) hl hf i hi h
              have em : (x : Int) * 2 ^ (c * i % 8) = ((x * 2 ^ (c * i % 8) : Nat) : Int) := by simp
              rw [rd_get l i hi, hx, em, w64n (x * 2 ^ (c * i % 8)) (by omega), eb, w64 (x := ((valT c l i / 256 ^ (c * i / 8) : Nat) : Int) + ((x * 2 ^ (c * i % 8) : Nat) : Int)) (by have hA := Int.natCast_nonneg (valT c l i / 256 ^ (c * i / 8)); have hB := Int.natCast_nonneg (x * 2 ^ (c * i % 8)); omega) (by omega), w64 (x := ((c * i % 8 : Nat) : Int) + (c : Int)) (by omega) (by omega)]
              rw [ed] at h2
              refine Ev.congr (fun k => ?_) h2
              congr 1
              omega
          · have hlb : c * l.length ≤ 13194139533312 := Nat.le_trans (Nat.mul_le_mul_right l.length (show c ≤ 12 by omega)) (by omega)
            have hmc : l.length * c = c * l.length := Nat.mul_comm _ _
            unfold packV
            rw [← valT_all]
            by_cases h8 : c * l.length % 8 = 0
            · refine Ev.step (f := fun _ => some (strOfNums (bytesL (c * l.length / 8) (valT c l l.length)), true)) (fun k => ?_) ?_
              · simp only [spec_Pack.l1]
                rw [if_neg (by omega), if_neg (by omega)]
              · rw [show (l.length * c + 7) / 8 = c * l.length / 8 by omega]; exact Ev.now _
            · refine Ev.step (f := fun _ => some (strOfNums (bytesL (c * l.length / 8 + 1) (valT c l l.length)), true)) (fun k => ?_) ?_
              · simp only [spec_Pack.l1]
                rw [if_neg (by omega), if_pos (by omega), if_pos (by rw [bytesL_length]; omega), ← bytesL_snoc]
                rfl
              · rw [show (l.length * c + 7) / 8 = c * l.length / 8 + 1 by omega]; exact Ev.now _
    · rw [if_neg (fun h => hf h.2)]
      obtain ⟨n, hn, hbad⟩ := not_all hf
      have step : ∀ i, (hi : i < l.length) → ∀ {r : ByteArray × Bool}, Ev (fun k => if fitsB c l[i] = true then spec_Pack.l0 k l (c : Int) ((i + 1 : Nat) : Int) else some ((⟨#[]⟩ : ByteArray), false)) r → Ev (fun k => spec_Pack.l0 k l (c : Int) (i : Int)) r := by
        intro i hi r h
        refine Ev.step (f := fun k => (spec_l11Two.f k (c : Int)).bind fun t148 => ((spec_l01In.f (rd l (i : Int)) 0 (wrap64 (t148 - 1))).bind fun t149 => (if t149 = true then (spec_Pack.l0 k l (c : Int) (wrap64 ((i : Int) + 1))) else (some ((⟨#[]⟩ : ByteArray), false))))) (fun k => ?_) ?_
        · simp only [spec_Pack.l0]
          rw [if_pos (by omega), if_pos (by omega)]
        · refine Ev.bind e2 ?_
          simp only [es, l01In_eq, Option.bind_some]
          rw [rd_get l i hi, w64s i (by omega)]
          exact h
      refine Ev.up (g := fun i k => spec_Pack.l0 k l (c : Int) (i : Int)) n ?_ (step n hn (Ev.neg (by rw [hbad]; decide) (Ev.now _))) 0 (by omega)
      intro i hi h
      refine step i (by omega) ?_
      by_cases hfi : fitsB c (l[i]'(by omega)) = true
      · exact Ev.pos hfi h
      · exact Ev.neg hfi (Ev.now _)
  · rw [if_neg (fun h => hb h.1)]
    exact Ev.neg (by simpa using hb) (Ev.now _)

def pieces (b S n : Nat) : List Int := (List.range n).map fun i => ((S / 2 ^ (b * i) % 2 ^ b : Nat) : Int)
theorem pieces_length (b S n : Nat) : (pieces b S n).length = n := by simp [pieces]
theorem pieces_succ (b S n : Nat) : pieces b S (n + 1) = pieces b S n ++ [((S / 2 ^ (b * n) % 2 ^ b : Nat) : Int)] := by simp [pieces, List.range_succ]
theorem pieces_fit (b S n : Nat) : (pieces b S n).all (fitsB b) = true := by
  rw [List.all_eq_true]
  intro x hx
  obtain ⟨i, _, rfl⟩ := List.mem_map.mp hx
  refine decide_eq_true ⟨by omega, ?_⟩
  have h1 : S / 2 ^ (b * i) % 2 ^ b < 2 ^ b := Nat.mod_lt _ (Nat.two_pow_pos b)
  have h3 : ((2 ^ b : Nat) : Int) = (2 : Int) ^ b := by simp
  omega
theorem pieces_nat (b S n : Nat) : natL (pieces b S n) = (List.range n).map fun i => S / 2 ^ (b * i) % 2 ^ b := by
  unfold natL pieces
  rw [List.map_map]
  exact List.map_congr_left fun i _ => Int.toNat_natCast _
theorem pieces_val (b S n : Nat) : valB b (natL (pieces b S n)) = S % 2 ^ (b * n) := by rw [pieces_nat, valB_pieces]

def unpackR (s : ByteArray) (b n : Int) : List Int × Bool :=
  if (1 ≤ b ∧ b ≤ 12) ∧ (0 ≤ n ∧ n ≤ 1000) ∧ s.size = (n.toNat * b.toNat + 7) / 8 then
    if bnum s < 2 ^ (b.toNat * n.toNat) then (pieces b.toNat (bnum s) n.toNat, true) else ([], false)
  else ([], false)

theorem mod_div_pow (S m u : Nat) (h : u ≤ m) : S % 2 ^ m / 2 ^ u = S / 2 ^ u % 2 ^ (m - u) := by
  rw [show (2 : Nat) ^ m = 2 ^ u * 2 ^ (m - u) by rw [← Nat.pow_add]; congr 1; omega, Nat.mod_mul_right_div_self]
theorem mod_div_mod (S m u b : Nat) (h : u + b ≤ m) : S % 2 ^ m / 2 ^ u % 2 ^ b = S / 2 ^ u % 2 ^ b := by
  rw [mod_div_pow S m u (by omega), Nat.mod_mod_of_dvd _ (Nat.pow_dvd_pow 2 (by omega))]

theorem len_eq {n b : Nat} (hn : n ≤ 1000) (hb : b ≤ 12) : wrap64 (Int.tdiv (wrap64 ((wrap64 ((n : Int) * (b : Int))) + 7)) 8) = (((n * b + 7) / 8 : Nat) : Int) := by
  have h : n * b ≤ 1000 * 12 := Nat.mul_le_mul hn hb
  have e0 : (n : Int) * (b : Int) = ((n * b : Nat) : Int) := by simp
  rw [e0, w64n (n * b) (by omega), show ((n * b : Nat) : Int) + 7 = ((n * b + 7 : Nat) : Int) by omega, w64n (n * b + 7) (by omega), tdiv8, w64n ((n * b + 7) / 8) (by omega)]

set_option maxHeartbeats 1000000 in
theorem spec_Unpack_l1 (s : ByteArray) (b n : Nat) (hb1 : 1 ≤ b) (hb : b ≤ 12) (hn : n ≤ 1000) (hs : s.size = (n * b + 7) / 8) (i : Nat) (hi : i < n) {r : List Int × Bool}
    (h : Ev (fun k => spec_Unpack.l0 k s (b : Int) (n : Int) (pieces b (bnum s) (i + 1)) ((bnum s % 2 ^ (8 * ((b * (i + 1) + 7) / 8)) / 2 ^ (b * (i + 1)) : Nat) : Int) ((8 * ((b * (i + 1) + 7) / 8) - b * (i + 1) : Nat) : Int) (((b * (i + 1) + 7) / 8 : Nat) : Int) ((i + 1 : Nat) : Int)) r) :
    Ev (fun k => spec_Unpack.l1 k s (b : Int) (n : Int) (pieces b (bnum s) i) ((bnum s % 2 ^ (8 * ((b * i + 7) / 8)) / 2 ^ (b * i) : Nat) : Int) ((8 * ((b * i + 7) / 8) - b * i : Nat) : Int) (((b * i + 7) / 8 : Nat) : Int) (i : Int)) r := by
  have hbn : b * n ≤ 12 * 1000 := Nat.mul_le_mul hb hn
  have hib : b * (i + 1) ≤ b * n := Nat.mul_le_mul_left _ hi
  have hbs : b * (i + 1) = b * i + b := Nat.mul_succ b i
  have hmc : n * b = b * n := Nat.mul_comm _ _
  have e2 := l11Two_ev (b : Int) (by omega)
  rw [Int.toNat_natCast] at e2
  have small : ∀ p, p ≤ (b * (i + 1) + 7) / 8 → bnum s % 2 ^ (8 * p) / 2 ^ (b * i) < 2 ^ 20 := by
    intro p hp
    rw [Nat.div_lt_iff_lt_mul (Nat.two_pow_pos _), ← Nat.pow_add]
    exact Nat.lt_of_lt_of_le (Nat.mod_lt _ (Nat.two_pow_pos _)) (Nat.pow_le_pow_right (by omega) (by omega))
  refine Ev.upFrom (g := fun p k => spec_Unpack.l1 k s (b : Int) (n : Int) (pieces b (bnum s) i) ((bnum s % 2 ^ (8 * p) / 2 ^ (b * i) : Nat) : Int) ((8 * p - b * i : Nat) : Int) (p : Int) (i : Int)) ((b * i + 7) / 8) ((b * (i + 1) + 7) / 8) ?_ ?_ (by omega)
  · intro p hp0 hp h'
    have e3 := l11Two_ev ((8 * p - b * i : Nat) : Int) (by omega)
    rw [Int.toNat_natCast] at e3
    refine Ev.step (f := fun k => (spec_l11Two.f k ((8 * p - b * i : Nat) : Int)).bind fun t193 => (spec_Unpack.l1 k s (b : Int) (n : Int) (pieces b (bnum s) i) (wrap64 (((bnum s % 2 ^ (8 * p) / 2 ^ (b * i) : Nat) : Int) + (wrap64 ((wrap64 (bt s (p : Int))) * t193)))) (wrap64 (((8 * p - b * i : Nat) : Int) + 8)) (wrap64 ((p : Int) + 1)) (i : Int))) (fun k => ?_) (Ev.bind e3 ?_)
    · simp only [spec_Unpack.l1]
      rw [if_pos (by omega), if_pos (by omega), if_pos (by omega)]
    · have hsm := small (p + 1) (by omega)
      have eS : bnum s % 2 ^ (8 * (p + 1)) / 2 ^ (b * i) = bnum s % 2 ^ (8 * p) / 2 ^ (b * i) + bnum s / 256 ^ p % 256 * 2 ^ (8 * p - b * i) := by
        rw [show 8 * (p + 1) = 8 * p + 8 by omega, Nat.pow_add, Nat.mod_mul, show (2 : Nat) ^ (8 * p) = 2 ^ (b * i) * 2 ^ (8 * p - b * i) by rw [← Nat.pow_add]; congr 1; omega]
        rw [Nat.mul_assoc (2 ^ (b * i)), Nat.add_mul_div_left _ _ (Nat.two_pow_pos _), ← Nat.pow_add, show b * i + (8 * p - b * i) = 8 * p by omega, ← pow256, Nat.mul_comm (2 ^ (8 * p - b * i))]
      rw [bt_bnum s p (by omega), w64n (bnum s / 256 ^ p % 256) (by omega)]
      have em : ((bnum s / 256 ^ p % 256 : Nat) : Int) * 2 ^ (8 * p - b * i) = ((bnum s / 256 ^ p % 256 * 2 ^ (8 * p - b * i) : Nat) : Int) := by simp
      have hA := Int.natCast_nonneg (bnum s % 2 ^ (8 * p) / 2 ^ (b * i))
      have hB := Int.natCast_nonneg (bnum s / 256 ^ p % 256 * 2 ^ (8 * p - b * i))
      rw [em, w64n (bnum s / 256 ^ p % 256 * 2 ^ (8 * p - b * i)) (by omega), w64s p (by omega)]
      rw [w64 (x := ((bnum s % 2 ^ (8 * p) / 2 ^ (b * i) : Nat) : Int) + ((bnum s / 256 ^ p % 256 * 2 ^ (8 * p - b * i) : Nat) : Int)) (by omega) (by omega), w64 (x := ((8 * p - b * i : Nat) : Int) + 8) (by omega) (by omega)]
      rw [eS] at h'
      refine Ev.congr (fun k => ?_) h'
      congr 1
      omega
  · have hsm := small ((b * (i + 1) + 7) / 8) (by omega)
    have h12 : (2 : Int) ^ b ≤ 4096 := by
      have : ((2 ^ b : Nat) : Int) ≤ ((2 ^ 12 : Nat) : Int) := Int.ofNat_le.mpr (Nat.pow_le_pow_right (by omega) (by omega))
      simpa using this
    have h0 := two_pos b
    refine Ev.step (f := fun k => ((spec_l11Two.f k (b : Int)).bind fun t194 => (if t194 = 0 then (none) else (if (pieces b (bnum s) i).length < 17592186044416 then ((spec_l11Two.f k (b : Int)).bind fun t198 => (if t198 = 0 then (none) else (spec_Unpack.l0 k s (b : Int) (n : Int) (pieces b (bnum s) i ++ [Int.tmod ((bnum s % 2 ^ (8 * ((b * (i + 1) + 7) / 8)) / 2 ^ (b * i) : Nat) : Int) t194]) (wrap64 (Int.tdiv ((bnum s % 2 ^ (8 * ((b * (i + 1) + 7) / 8)) / 2 ^ (b * i) : Nat) : Int) t198)) (wrap64 (((8 * ((b * (i + 1) + 7) / 8) - b * i : Nat) : Int) - (b : Int))) ((((b * (i + 1) + 7) / 8 : Nat) : Int)) (wrap64 ((i : Int) + 1))))) else (none))))) (fun k => ?_) ?_
    · simp only [spec_Unpack.l1]
      rw [if_neg (by omega)]
    · refine Ev.bind e2 (Ev.neg (by omega) (Ev.pos (by rw [pieces_length]; omega) (Ev.bind e2 (Ev.neg (by omega) ?_))))
      have ec : (2 : Int) ^ b = ((2 ^ b : Nat) : Int) := by simp
      rw [ec, tmod_nat, tdiv_nat, mod_div_mod _ _ _ _ (by omega), ← pieces_succ, Nat.div_div_eq_div_mul, ← Nat.pow_add, ← hbs, w64n (bnum s % 2 ^ (8 * ((b * (i + 1) + 7) / 8)) / 2 ^ (b * (i + 1))) (by
        have : bnum s % 2 ^ (8 * ((b * (i + 1) + 7) / 8)) / 2 ^ (b * (i + 1)) ≤ bnum s % 2 ^ (8 * ((b * (i + 1) + 7) / 8)) / 2 ^ (b * i) := Nat.div_le_div_left (Nat.pow_le_pow_right (by omega) (by omega)) (Nat.two_pow_pos _)
        omega), w64 (x := ((8 * ((b * (i + 1) + 7) / 8) - b * i : Nat) : Int) - (b : Int)) (by omega) (by omega), w64s i (by omega)]
      refine Ev.congr (fun k => ?_) h
      congr 1
      omega

theorem spec_Unpack_ev (s : ByteArray) (b n : Int) : Ev (fun k => spec_Unpack.f k s b n) (unpackR s b n) := by
  unfold spec_Unpack.f unpackR
  simp only [l01In_eq, Option.bind_some]
  have bad : Ev (fun k => spec_Unpack.j0 k s b n [] true) (([] : List Int), false) := by
    refine Ev.step (f := fun _ => some ([], false)) (fun k => ?_) (Ev.now _)
    simp only [spec_Unpack.j0, if_true]
  by_cases hb : 1 ≤ b ∧ b ≤ 12
  · refine Ev.pos (by simpa using hb) ?_
    by_cases hn : 0 ≤ n ∧ n ≤ 1000
    · refine Ev.pos (by simpa using hn) ?_
      obtain ⟨c, rfl⟩ : ∃ c : Nat, b = (c : Int) := ⟨b.toNat, by omega⟩
      obtain ⟨m, rfl⟩ : ∃ c : Nat, n = (c : Int) := ⟨n.toNat, by omega⟩
      rw [Int.toNat_natCast, Int.toNat_natCast, len_eq (by omega) (by omega)]
      by_cases hs : s.size = (m * c + 7) / 8
      · rw [if_pos ⟨hb, hn, hs⟩, show (((s.size : Int) != (((m * c + 7) / 8 : Nat) : Int)) = false) by rw [bne_eq_false_iff_eq, hs]]
        have hmc : m * c = c * m := Nat.mul_comm _ _
        refine Ev.step (f := fun k => spec_Unpack.l0 k s (c : Int) (m : Int) [] 0 0 0 0) (fun k => ?_) ?_
        · simp only [spec_Unpack.j0]
          rw [if_neg (by decide)]
        · have key := Ev.up (g := fun i k => spec_Unpack.l0 k s (c : Int) (m : Int) (pieces c (bnum s) i) ((bnum s % 2 ^ (8 * ((c * i + 7) / 8)) / 2 ^ (c * i) : Nat) : Int) ((8 * ((c * i + 7) / 8) - c * i : Nat) : Int) (((c * i + 7) / 8 : Nat) : Int) (i : Int)) (r := if bnum s < 2 ^ (c * m) then (pieces c (bnum s) m, true) else ([], false)) m ?_ ?_ 0 (by omega)
          · simpa [pieces, Nat.mod_one] using key
          · intro i hi h
            refine Ev.step (fun k => ?_) (spec_Unpack_l1 s c m (by omega) (by omega) (by omega) hs i hi h)
            simp only [spec_Unpack.l0]
            rw [if_pos (by omega)]
          · have hlt := bnum_lt s
            rw [pow256, hs, hmc] at hlt
            have e1 : bnum s % 2 ^ (8 * ((c * m + 7) / 8)) = bnum s := Nat.mod_eq_of_lt hlt
            by_cases hq : bnum s < 2 ^ (c * m)
            · rw [if_pos hq]
              refine Ev.step (f := fun _ => some (pieces c (bnum s) m, true)) (fun k => ?_) (Ev.now _)
              simp only [spec_Unpack.l0]
              rw [if_neg (by omega), if_pos (by rw [e1, Nat.div_eq_of_lt hq]; rfl)]
            · rw [if_neg hq]
              refine Ev.step (f := fun _ => some ([], false)) (fun k => ?_) (Ev.now _)
              simp only [spec_Unpack.l0]
              have h2 : 0 < bnum s / 2 ^ (c * m) := Nat.div_pos (by omega) (Nat.two_pow_pos _)
              rw [if_neg (by omega), if_neg (by rw [e1]; omega)]
      · rw [if_neg (fun h => hs h.2.2), show (((s.size : Int) != (((m * c + 7) / 8 : Nat) : Int)) = true) by rw [bne_iff_ne]; omega]
        exact bad
    · rw [if_neg (fun h => hn h.2.1)]
      exact Ev.neg (by simpa using hn) bad
  · rw [if_neg (fun h => hb h.1)]
    exact Ev.neg (by simpa using hb) bad

theorem i64_or_bit (a t b : Nat) (ha : a < 2 ^ t) (ht : t ≤ 60) (hb : b ≤ 1) : Go.bits .or .i64 (a : Int) ((b * 2 ^ t : Nat) : Int) = ((a + b * 2 ^ t : Nat) : Int) := by
  have h7 : 2 ^ t ≤ 2 ^ 60 := Nat.pow_le_pow_right (n := 2) (by omega) ht
  have hb2 : b * 2 ^ t ≤ 2 ^ t := by
    have := Nat.mul_le_mul_right (2 ^ t) hb
    omega
  rw [(bits_nat .i64 62 (by decide) (fun n h0 h1 => by rw [IntKind.wrap_i64]; omega) a (b * 2 ^ t) (by omega) (by omega)).2, Nat.or_comm, Nat.mul_comm b, ← Nat.two_pow_add_eq_or_of_lt ha b, Nat.add_comm]

theorem div_bit (S m : Nat) : S / 256 ^ (m / 8) % 256 / 2 ^ (m % 8) % 2 = S / 2 ^ m % 2 := by
  have h1 : (256 : Nat) = 2 ^ (m % 8) * 2 ^ (8 - m % 8) := by rw [← Nat.pow_add, show m % 8 + (8 - m % 8) = 8 by omega]
  have h2 : (2 : Nat) ^ (8 - m % 8) = 2 * 2 ^ (7 - m % 8) := by rw [show 8 - m % 8 = (7 - m % 8) + 1 by omega, Nat.pow_succ, Nat.mul_comm]
  conv => lhs; rw [show S / 256 ^ (m / 8) % 256 = S / 256 ^ (m / 8) % (2 ^ (m % 8) * 2 ^ (8 - m % 8)) by rw [← h1]]
  rw [Nat.mod_mul_right_div_self, h2, Nat.mod_mul_right_mod, Nat.div_div_eq_div_mul, pow256, ← Nat.pow_add, show 8 * (m / 8) + m % 8 = m by omega]

theorem at_eq (i c j : Nat) (h : c * i + j ≤ 4611686018427387904) : wrap64 ((wrap64 ((i : Int) * (c : Int))) + (j : Int)) = ((c * i + j : Nat) : Int) := by
  have e0 : (i : Int) * (c : Int) = ((c * i : Nat) : Int) := by rw [Nat.mul_comm]; simp
  rw [e0, w64n (c * i) (by omega)]
  exact w64n (c * i + j) (by omega)
theorem unpack_bit (S b i j : Nat) (hj : j ≤ 12) :
    Go.bits .or .i64 ((S / 2 ^ (b * i) % 2 ^ j : Nat) : Int) (shl .i64 (wrap64 (Go.bits .and .u8 (shr .u8 ((S / 256 ^ ((b * i + j) / 8) % 256 : Nat) : Int) (((b * i + j) % 8 : Nat) : Int)) 1)) (j : Int)) = ((S / 2 ^ (b * i) % 2 ^ (j + 1) : Nat) : Int) := by
  have e1 : shr .u8 ((S / 256 ^ ((b * i + j) / 8) % 256 : Nat) : Int) (((b * i + j) % 8 : Nat) : Int) = ((S / 256 ^ ((b * i + j) / 8) % 256 / 2 ^ ((b * i + j) % 8) : Nat) : Int) := shr_nat .u8 _ _ (by simp [IntKind.bits]; omega)
  rw [e1, u8_and1 _ (Nat.lt_of_le_of_lt (Nat.div_le_self _ _) (Nat.mod_lt _ (by omega))), div_bit, mod_succ_bit, Nat.div_div_eq_div_mul, ← Nat.pow_add]
  have hlo : S / 2 ^ (b * i) % 2 ^ j < 2 ^ j := Nat.mod_lt _ (Nat.two_pow_pos j)
  have h12 : 2 ^ j ≤ 4096 := Nat.pow_le_pow_right (n := 2) (by omega) hj
  obtain ⟨u, hu⟩ : ∃ u, S / 2 ^ (b * i + j) % 2 = u := ⟨_, rfl⟩
  have hu1 : u ≤ 1 := by omega
  obtain ⟨q, hq⟩ : ∃ q, S / 2 ^ (b * i) % 2 ^ j = q := ⟨_, rfl⟩
  rw [hu, hq]
  rw [hq] at hlo
  have hb2 : u * 2 ^ j ≤ 4096 := Nat.le_trans (Nat.mul_le_mul_right (2 ^ j) hu1) (by omega)
  have hsh : shl .i64 (u : Int) (j : Int) = ((u * 2 ^ j : Nat) : Int) := by
    rw [shl64 _ _ (by omega), Int.toNat_natCast]
    have em : (u : Int) * 2 ^ j = ((u * 2 ^ j : Nat) : Int) := by simp
    rw [em, w64n (u * 2 ^ j) (by omega)]
  rw [w64n u (by omega), hsh, i64_or_bit q j u hlo (by omega) hu1, Nat.mul_comm u]

theorem impl_Unpack_ev (s : ByteArray) (b n : Int) : Ev (fun k => impl_Unpack.f k s b n) (unpackR s b n) := by
  unfold impl_Unpack.f unpackR
  simp only [in_eq, Option.bind_some]
  have bad : Ev (fun k => impl_Unpack.j0 k s b n true) (([] : List Int), false) := by
    refine Ev.step (f := fun _ => some ([], false)) (fun k => ?_) (Ev.now _)
    simp only [impl_Unpack.j0, if_true]
  by_cases hb : 1 ≤ b ∧ b ≤ 12
  · refine Ev.pos (by simpa using hb) ?_
    by_cases hn : 0 ≤ n ∧ n ≤ 1000
    · refine Ev.pos (by simpa using hn) ?_
      obtain ⟨c, rfl⟩ : ∃ c : Nat, b = (c : Int) := ⟨b.toNat, by omega⟩
      obtain ⟨m, rfl⟩ : ∃ c : Nat, n = (c : Int) := ⟨n.toNat, by omega⟩
      rw [Int.toNat_natCast, Int.toNat_natCast, len_eq (by omega) (by omega)]
      by_cases hs : s.size = (m * c + 7) / 8
      · rw [if_pos ⟨hb, hn, hs⟩, show (((s.size : Int) != (((m * c + 7) / 8 : Nat) : Int)) = false) by rw [bne_eq_false_iff_eq, hs]]
        have hmc : m * c = c * m := Nat.mul_comm _ _
        have hbn : c * m ≤ 12 * 1000 := Nat.mul_le_mul (by omega) (by omega)
        refine Ev.step (f := fun k => impl_Unpack.l0 k s (c : Int) [] (m : Int) 0) (fun k => ?_) ?_
        · simp only [impl_Unpack.j0]
          rw [if_neg (by decide)]
        · refine Ev.up (g := fun i k => impl_Unpack.l0 k s (c : Int) (pieces c (bnum s) i) (m : Int) (i : Int)) (r := if bnum s < 2 ^ (c * m) then (pieces c (bnum s) m, true) else ([], false)) m ?_ ?_ 0 (by omega)
          · intro i hi h
            have hib : c * (i + 1) ≤ c * m := Nat.mul_le_mul_left _ hi
            have hbs : c * (i + 1) = c * i + c := Nat.mul_succ c i
            have hic : i * c = c * i := Nat.mul_comm _ _
            refine Ev.step (f := fun k => impl_Unpack.l1 k s (c : Int) (pieces c (bnum s) i) (i : Int) 0 (m : Int) (i : Int) (c : Int) 0) (fun k => ?_) ?_
            · simp only [impl_Unpack.l0]
              rw [if_pos (by omega)]
            · have key := Ev.up (g := fun j k => impl_Unpack.l1 k s (c : Int) (pieces c (bnum s) i) (i : Int) ((bnum s / 2 ^ (c * i) % 2 ^ j : Nat) : Int) (m : Int) (i : Int) (c : Int) (j : Int)) (r := if bnum s < 2 ^ (c * m) then (pieces c (bnum s) m, true) else ([], false)) c ?_ ?_ 0 (by omega)
              · simpa [Nat.mod_one] using key
              · intro j hj h'
                refine Ev.step (fun k => ?_) h'
                have n1 : c * i + j ≤ 4611686018427387904 := by omega
                have q0 : (c * i + j) / 8 < s.size := by omega
                have j12 : j ≤ 12 := by omega
                have n3 : (c * i + j) / 8 ≤ 9223372036854775807 := by omega
                have jw := w64s j (by omega)
                have e1 := at_eq i c j n1
                have e2 : wrap64 (((c * i + j) / 8 : Nat) : Int) = (((c * i + j) / 8 : Nat) : Int) := w64n _ n3
                have e3 := bt_bnum s ((c * i + j) / 8) q0
                have e4 := unpack_bit (bnum s) c i j j12
                simp only [impl_Unpack.l1]
                rw [e1, tdiv8, tmod8, e2, if_pos (Int.ofNat_lt.mpr hj), if_pos (Int.natCast_nonneg _), if_pos (Int.ofNat_lt.mpr q0), if_pos (Int.natCast_nonneg _), if_pos (Int.natCast_nonneg _), e3, e4, jw]
              · refine Ev.step (fun k => ?_) h
                simp only [impl_Unpack.l1]
                rw [if_neg (by omega), if_pos (by rw [pieces_length]; omega), w64s i (by omega), ← pieces_succ]
          · have hlt := bnum_lt s
            have hpk : packV c (pieces c (bnum s) m) = strOfNums (bytesL s.size (bnum s % 2 ^ (c * m))) := by
              unfold packV
              rw [pieces_length, pieces_val, hs]
            have hp := impl_packed_ev (pieces c (bnum s) m) c (by omega) (by omega) (by rw [pieces_length]; omega) (pieces_fit _ _ _)
            rw [hpk] at hp
            refine Ev.step (f := fun k => (impl_packed.f k (pieces c (bnum s) m) (c : Int)).bind fun t125 => (if t125.toList = s.toList then (some (pieces c (bnum s) m, true)) else (some (([] : List Int), false)))) (fun k => ?_) (Ev.bind hp ?_)
            · simp only [impl_Unpack.l0]
              rw [if_neg (by omega)]
            · by_cases hq : bnum s < 2 ^ (c * m)
              · rw [if_pos hq]
                refine Ev.pos ?_ (Ev.now _)
                rw [Nat.mod_eq_of_lt hq, strOf_bnum]
              · rw [if_neg hq]
                refine Ev.neg (fun h => hq ?_) (Ev.now _)
                rw [bytes_toList] at h
                have h2 : strOfNums (bytesL s.size (bnum s % 2 ^ (c * m))) = strOfNums (bytesL s.size (bnum s)) := h.trans (strOf_bnum s).symm
                have h3 := strOf_inj (Nat.lt_of_le_of_lt (Nat.mod_le _ _) hlt) hlt h2
                rw [← h3]
                exact Nat.mod_lt _ (Nat.two_pow_pos _)
      · rw [if_neg (fun h => hs h.2.2), show (((s.size : Int) != (((m * c + 7) / 8 : Nat) : Int)) = true) by rw [bne_iff_ne]; omega]
        exact bad
    · rw [if_neg (fun h => hn h.2.1)]
      exact Ev.neg (by simpa using hn) bad
  · rw [if_neg (fun h => hb h.1)]
    exact Ev.neg (by simpa using hb) bad

def polyFromR (s : ByteArray) : List Int × Bool := if (unpackR s 12 256).2 = true ∧ polyOk (unpackR s 12 256).1 = true then ((unpackR s 12 256).1, true) else ([], false)

theorem unpackR_len (s : ByteArray) (b n : Int) : (unpackR s b n).1.length ≤ 1000 := by
  unfold unpackR
  split
  · split
    · rw [pieces_length]; omega
    · simp
  · simp
theorem polyFromR_len (s : ByteArray) : (polyFromR s).1.length ≤ 1000 := by
  have := unpackR_len s 12 256
  unfold polyFromR
  split
  · exact this
  · simp
theorem spec_PolyFrom_ev (s : ByteArray) : Ev (fun k => spec_PolyFrom.f k s) (polyFromR s) := by
  unfold spec_PolyFrom.f polyFromR
  refine Ev.bind (spec_Unpack_ev s 12 256) ?_
  by_cases h : (unpackR s 12 256).2 = true
  · refine Ev.pos h (Ev.bind (spec_PolyOk_ev _) ?_)
    by_cases h2 : polyOk (unpackR s 12 256).1 = true
    · refine Ev.pos h2 ?_
      rw [if_pos ⟨h, h2⟩]; exact Ev.now _
    · refine Ev.neg h2 ?_
      rw [if_neg (fun h3 => h2 h3.2)]; exact Ev.now _
  · rw [if_neg (fun h3 => h h3.1)]
    exact Ev.neg h (Ev.now _)
theorem impl_PolyFrom_ev (s : ByteArray) : Ev (fun k => impl_PolyFrom.f k s) (polyFromR s) := by
  unfold impl_PolyFrom.f polyFromR
  refine Ev.bind (impl_Unpack_ev s 12 256) ?_
  by_cases h : (unpackR s 12 256).2 = true
  · refine Ev.pos h (Ev.bind (impl_PolyOk_ev _ (by have := unpackR_len s 12 256; omega)) ?_)
    by_cases h2 : polyOk (unpackR s 12 256).1 = true
    · refine Ev.pos h2 ?_
      rw [if_pos ⟨h, h2⟩]; exact Ev.now _
    · refine Ev.neg h2 ?_
      rw [if_neg (fun h3 => h2 h3.2)]; exact Ev.now _
  · rw [if_neg (fun h3 => h h3.1)]
    exact Ev.neg h (Ev.now _)

end Go.Proofs.Ytnckhligcdieaaa.Pure
namespace Go.Proofs.Ytnckhligcdieaaa.Pure
open Go.RowKit Go.Proofs.YtnckhligcdieaaaW.PrintWords Go.Proofs.YtnckhligcdieaaaW.PrintLast Go.Proofs.YtnckhligcdieaaaW.PrintMore Go.Proofs.Ytnckhligcdieaaa.P

theorem EqQ.pow {x y : Int} (h : EqQ x y) (n : Nat) : EqQ (x ^ n) (y ^ n) := by
  induction n with
  | zero => rw [Int.pow_zero, Int.pow_zero]; exact EqQ.refl _
  | succ n ih => rw [Int.pow_succ, Int.pow_succ]; exact EqQ.mul ih h
theorem pow_half (b : Int) (e : Nat) : b ^ e = (b * b) ^ (e / 2) * b ^ (e % 2) := by
  have h1 : ∀ n : Nat, (b * b) ^ n = b ^ (2 * n) := by
    intro n
    induction n with
    | zero => rw [Nat.mul_zero, Int.pow_zero, Int.pow_zero]
    | succ n ih => rw [Int.pow_succ, ih, show 2 * (n + 1) = 2 * n + 1 + 1 by omega, Int.pow_succ, Int.pow_succ, Int.mul_assoc]
  rw [h1, ← Int.pow_add]
  congr 1
  omega
def pw (b : Int) (e : Nat) : Int := b ^ e % 3329
theorem pw_in (b : Int) (e : Nat) : 0 ≤ pw b e ∧ pw b e ≤ 3328 := mod_in _
theorem sq_mod {x y : Int} (hx : 0 ≤ x ∧ x ≤ 3328) (hy : 0 ≤ y ∧ y ≤ 3328) : Int.tmod (wrap64 (x * y)) 3329 = x * y % 3329 := by
  have := mul_bd hx hy
  rw [w64 (x := x * y) (by omega) (by omega), Int.tmod_eq_emod_of_nonneg (by omega)]
theorem half_e (e : Nat) (h : e ≤ 1000000000) : wrap64 (Int.tdiv (e : Int) 2) = ((e / 2 : Nat) : Int) := by
  rw [Int.tdiv_eq_ediv_of_nonneg (by omega), w64 (by omega) (by omega)]; rfl
theorem odd_e (e : Nat) : Int.tmod (e : Int) 2 = ((e % 2 : Nat) : Int) := by
  rw [Int.tmod_eq_emod_of_nonneg (by omega)]; rfl

theorem impl_PowQ_l0 (d : Nat) : ∀ (e : Nat) (b out : Int), e ≤ d → e ≤ 1000000000 → 0 ≤ b ∧ b ≤ 3328 → 0 ≤ out ∧ out ≤ 3328 → Ev (fun k => impl_PowQ.l0 k b (e : Int) out) (out * b ^ e % 3329) := by
  induction d with
  | zero =>
    intro e b out hd _ hb ho
    obtain rfl : e = 0 := by omega
    refine Ev.step (f := fun _ => some (out * b ^ 0 % 3329)) (fun k => ?_) (Ev.now _)
    simp only [impl_PowQ.l0]
    rw [if_neg (by omega), Int.pow_zero, Int.mul_one, Int.emod_eq_of_lt ho.1 (by omega)]
  | succ d ih =>
    intro e b out hd he hb ho
    by_cases h0 : e = 0
    · subst h0
      refine Ev.step (f := fun _ => some (out * b ^ 0 % 3329)) (fun k => ?_) (Ev.now _)
      simp only [impl_PowQ.l0]
      rw [if_neg (by omega), Int.pow_zero, Int.mul_one, Int.emod_eq_of_lt ho.1 (by omega)]
    · by_cases h1 : e % 2 = 1
      · have h := ih (e / 2) (b * b % 3329) (out * b % 3329) (by omega) (by omega) (mod_in _) (mod_in _)
        have e1 : out * b % 3329 * (b * b % 3329) ^ (e / 2) % 3329 = out * b ^ e % 3329 := by
          refine EqQ.eqm ?_
          refine (EqQ.mul (EqQ.mod _) (EqQ.pow (EqQ.mod _) _)).trans (EqQ.of ?_)
          rw [pow_half b e, h1, Int.pow_one, Int.mul_assoc, Int.mul_comm b]
        rw [e1] at h
        refine Ev.step (fun k => ?_) h
        simp only [impl_PowQ.l0]
        rw [if_pos (by omega), odd_e, if_pos (by omega), sq_mod hb hb, sq_mod ho hb, half_e e he]
      · have h := ih (e / 2) (b * b % 3329) out (by omega) (by omega) (mod_in _) ho
        have e1 : out * (b * b % 3329) ^ (e / 2) % 3329 = out * b ^ e % 3329 := by
          refine EqQ.eqm ?_
          refine (EqQ.mul (EqQ.refl _) (EqQ.pow (EqQ.mod _) _)).trans (EqQ.of ?_)
          rw [pow_half b e, show e % 2 = 0 by omega, Int.pow_zero, Int.mul_one]
        rw [e1] at h
        refine Ev.step (fun k => ?_) h
        simp only [impl_PowQ.l0]
        rw [if_pos (by omega), odd_e, if_neg (by omega), sq_mod hb hb, half_e e he]

theorem spec_PowQ_l0 (d : Nat) : ∀ (e : Nat) (b out : Int), e ≤ d → e ≤ 1000000000 → 0 ≤ b ∧ b ≤ 3328 → 0 ≤ out ∧ out ≤ 3328 → Ev (fun k => spec_PowQ.l0 k b (e : Int) out) (out * b ^ e % 3329) := by
  induction d with
  | zero =>
    intro e b out hd _ hb ho
    obtain rfl : e = 0 := by omega
    refine Ev.step (f := fun _ => some (out * b ^ 0 % 3329)) (fun k => ?_) (Ev.now _)
    simp only [spec_PowQ.l0]
    rw [if_neg (by omega), Int.pow_zero, Int.mul_one, Int.emod_eq_of_lt ho.1 (by omega)]
  | succ d ih =>
    intro e b out hd he hb ho
    by_cases h0 : e = 0
    · subst h0
      refine Ev.step (f := fun _ => some (out * b ^ 0 % 3329)) (fun k => ?_) (Ev.now _)
      simp only [spec_PowQ.l0]
      rw [if_neg (by omega), Int.pow_zero, Int.mul_one, Int.emod_eq_of_lt ho.1 (by omega)]
    · by_cases h1 : e % 2 = 1
      · have h := ih (e / 2) (b * b % 3329) (out * b % 3329) (by omega) (by omega) (mod_in _) (mod_in _)
        have e1 : out * b % 3329 * (b * b % 3329) ^ (e / 2) % 3329 = out * b ^ e % 3329 := by
          refine EqQ.eqm ?_
          refine (EqQ.mul (EqQ.mod _) (EqQ.pow (EqQ.mod _) _)).trans (EqQ.of ?_)
          rw [pow_half b e, h1, Int.pow_one, Int.mul_assoc, Int.mul_comm b]
        rw [e1] at h
        refine Ev.step (fun k => ?_) h
        simp only [spec_PowQ.l0]
        rw [if_pos (by omega), odd_e, if_pos (by omega), sq_mod hb hb, sq_mod ho hb, half_e e he]
      · have h := ih (e / 2) (b * b % 3329) out (by omega) (by omega) (mod_in _) ho
        have e1 : out * (b * b % 3329) ^ (e / 2) % 3329 = out * b ^ e % 3329 := by
          refine EqQ.eqm ?_
          refine (EqQ.mul (EqQ.refl _) (EqQ.pow (EqQ.mod _) _)).trans (EqQ.of ?_)
          rw [pow_half b e, show e % 2 = 0 by omega, Int.pow_zero, Int.mul_one]
        rw [e1] at h
        refine Ev.step (fun k => ?_) h
        simp only [spec_PowQ.l0]
        rw [if_pos (by omega), odd_e, if_neg (by omega), sq_mod hb hb, half_e e he]

theorem impl_PowQ_ev (b : Int) (hb : 0 ≤ b ∧ b ≤ 3328) (e : Nat) (he : e ≤ 1000000000) : Ev (fun k => impl_PowQ.f k b (e : Int)) (pw b e) := by
  unfold impl_PowQ.f
  simp only [in_eq, Option.bind_some]
  refine Ev.pos (decide_eq_true ⟨by omega, by omega⟩) (Ev.then (modQ_eq b (by omega) (by omega)) ?_)
  have h := impl_PowQ_l0 e e b 1 (Nat.le_refl _) he hb (by omega)
  rw [Int.one_mul] at h
  rw [Int.emod_eq_of_lt hb.1 (by omega)]
  exact h
theorem spec_PowQ_ev (b : Int) (hb : 0 ≤ b ∧ b ≤ 3328) (e : Nat) (he : e ≤ 1000000000) : Ev (fun k => spec_PowQ.f k b (e : Int)) (pw b e) := by
  unfold spec_PowQ.f
  simp only [l01In_eq, Option.bind_some]
  have hm : Int.tmod b 3329 = b := by rw [Int.tmod_eq_emod_of_nonneg hb.1, Int.emod_eq_of_lt hb.1 (by omega)]
  rw [hm]
  refine Ev.pos (decide_eq_true ⟨by omega, by omega⟩) (Ev.neg (by omega) ?_)
  have h := spec_PowQ_l0 e e b 1 (Nat.le_refl _) he hb (by omega)
  rw [Int.one_mul] at h
  refine Ev.step (fun k => ?_) h
  simp only [spec_PowQ.j0]

/-- The first i of seven bits, turned around. -/
def t7s (n : Nat) : Nat → Nat
  | 0 => 0
  | i + 1 => 2 * t7s n i + n / 2 ^ i % 2
theorem t7s_lt (n i : Nat) : t7s n i < 2 ^ i := by
  induction i with
  | zero => simp [t7s]
  | succ i ih => simp only [t7s, Nat.pow_succ]; omega
theorem t7_lt (n : Nat) : t7s n 7 < 128 := t7s_lt n 7
theorem t7s_le (n i : Nat) (h : i ≤ 7) : t7s n i ≤ 128 := by
  have h1 := t7s_lt n i
  have h2 : 2 ^ i ≤ 2 ^ 7 := Nat.pow_le_pow_right (by omega) h
  omega
theorem turn_step (n i : Nat) (h : i ≤ 7) : wrap64 ((wrap64 (2 * ((t7s n i : Nat) : Int))) + ((n / 2 ^ i % 2 : Nat) : Int)) = ((t7s n (i + 1) : Nat) : Int) := by
  have h1 := t7s_le n i h
  have h2 : n / 2 ^ i % 2 ≤ 1 := by omega
  obtain ⟨u, hu⟩ : ∃ u, n / 2 ^ i % 2 = u := ⟨_, rfl⟩
  obtain ⟨v, hv⟩ : ∃ v, t7s n i = v := ⟨_, rfl⟩
  simp only [t7s]
  rw [hu] at h2 ⊢
  rw [hv] at h1 ⊢
  rw [w64 (x := 2 * (v : Int)) (by omega) (by omega), w64 (by omega) (by omega)]
  omega
theorem impl_Turn7_ev (n : Nat) (hn : n < 128) : Ev (fun k => impl_Turn7.f k (n : Int)) ((t7s n 7 : Nat) : Int) := by
  unfold impl_Turn7.f
  refine Ev.up (g := fun i k => impl_Turn7.l0 k (n : Int) ((t7s n i : Nat) : Int) (i : Int)) 7 ?_ ?_ 0 (by omega)
  · intro i hi h
    refine Ev.step (fun k => ?_) h
    have e1 : shr .i64 (n : Int) (i : Int) = ((n / 2 ^ i : Nat) : Int) := shr_nat .i64 n i (by simp [IntKind.bits]; omega)
    have e2 := i64_and1 (n / 2 ^ i) (Nat.lt_of_le_of_lt (Nat.div_le_self _ _) (Nat.lt_trans hn (by decide)))
    have e3 := turn_step n i (Nat.le_of_lt hi)
    have e4 := w64s i (Nat.lt_trans hi (by decide))
    simp only [impl_Turn7.l0]
    rw [if_pos (show (i : Int) < 7 from Int.ofNat_lt.mpr hi), if_pos (Int.natCast_nonneg _), e1, e2, e3, e4]
  · refine Ev.step (f := fun _ => some ((t7s n 7 : Nat) : Int)) (fun k => ?_) (Ev.now _)
    simp only [impl_Turn7.l0]
    rw [if_neg (by omega)]
theorem spec_Turn7_ev (n : Nat) (hn : n < 128) : Ev (fun k => spec_Turn7.f k (n : Int)) ((t7s n 7 : Nat) : Int) := by
  unfold spec_Turn7.f
  have hm : Int.tmod (n : Int) 128 = (n : Int) := by rw [Int.tmod_eq_emod_of_nonneg (by omega), Int.emod_eq_of_lt (by omega) (by omega)]
  rw [hm]
  refine Ev.neg (by omega) ?_
  refine Ev.step (f := fun k => spec_Turn7.l0 k (n : Int) 0 0) (fun k => ?_) ?_
  · simp only [spec_Turn7.j0]
  · have key := Ev.up (g := fun i k => spec_Turn7.l0 k ((n / 2 ^ i : Nat) : Int) ((t7s n i : Nat) : Int) (i : Int)) (r := ((t7s n 7 : Nat) : Int)) 7 ?_ ?_ 0 (by omega)
    · simpa [t7s] using key
    · intro i hi h
      refine Ev.step (fun k => ?_) h
      have e1 : Int.tmod ((n / 2 ^ i : Nat) : Int) 2 = ((n / 2 ^ i % 2 : Nat) : Int) := odd_e _
      have e2 := half_e (n / 2 ^ i) (Nat.le_trans (Nat.div_le_self _ _) (Nat.le_trans (Nat.le_of_lt hn) (by decide)))
      have e3 := turn_step n i (Nat.le_of_lt hi)
      have e4 := w64s i (Nat.lt_trans hi (by decide))
      have e5 : n / 2 ^ i / 2 = n / 2 ^ (i + 1) := by rw [Nat.div_div_eq_div_mul, Nat.pow_succ]
      simp only [spec_Turn7.l0]
      rw [if_pos (show (i : Int) < 7 from Int.ofNat_lt.mpr hi), e1, e2, e3, e4, e5]
    · refine Ev.step (f := fun _ => some ((t7s n 7 : Nat) : Int)) (fun k => ?_) (Ev.now _)
      simp only [spec_Turn7.l0]
      rw [if_neg (by omega)]
/-- The powers of 17 that the transforms take. -/
def zed (n : Nat) : Int := pw 17 (t7s n 7)
theorem zed_in (n : Nat) : 0 ≤ zed n ∧ zed n ≤ 3328 := pw_in _ _

theorem wadd (a b : Nat) (h : a + b ≤ 100000) : wrap64 ((a : Int) + (b : Int)) = ((a + b : Nat) : Int) := by rw [w64 (by omega) (by omega)]; omega
theorem wdbl (a : Nat) (h : a ≤ 100000) : wrap64 (2 * (a : Int)) = ((2 * a : Nat) : Int) := by rw [w64 (by omega) (by omega)]; omega
theorem whalf (a : Nat) (h : a ≤ 100000) : wrap64 (Int.tdiv (a : Int) 2) = ((a / 2 : Nat) : Int) := half_e a (by omega)
theorem wmul_in {x y : Int} (hx : 0 ≤ x ∧ x ≤ 3328) (hy : 0 ≤ y ∧ y ≤ 3328) : wrap64 (x * y) = x * y := by
  have := mul_bd hx hy
  exact w64 (by omega) (by omega)

/-- A butterfly on the numbers from st on, s of them with the s behind; the first j of them done. -/
def bfp (z : Int) (s st j : Nat) (f : Nat → Int) : Nat → Int := fun n =>
  if st ≤ n ∧ n < st + j then (f n + z * f (n + s)) % 3329 else if st + s ≤ n ∧ n < st + s + j then (f (n - s) - z * f n) % 3329 else f n
theorem bfp_0 (z : Int) (s st : Nat) (f : Nat → Int) : bfp z s st 0 f = f := by
  funext n; unfold bfp; rw [if_neg (by omega), if_neg (by omega)]
theorem bfp_in {z : Int} {s st j : Nat} {f : Nat → Int} (hf : ∀ i, 0 ≤ f i ∧ f i ≤ 3328) (n : Nat) : 0 ≤ bfp z s st j f n ∧ bfp z s st j f n ≤ 3328 := by
  unfold bfp
  split
  · exact mod_in _
  · split
    · exact mod_in _
    · exact hf n
theorem bfp_at1 {z : Int} {s st j : Nat} {f : Nat → Int} (h : j < s) : bfp z s st j f (st + j) = f (st + j) := by
  unfold bfp; rw [if_neg (by omega), if_neg (by omega)]
theorem bfp_at2 {z : Int} {s st j : Nat} {f : Nat → Int} : bfp z s st j f (st + j + s) = f (st + j + s) := by
  unfold bfp; rw [if_neg (by omega), if_neg (by omega)]
theorem bfp_step (z : Int) (s st j : Nat) (f : Nat → Int) (hj : j < s) : ((vec (bfp z s st j f)).set (st + j) ((f (st + j) + z * f (st + j + s)) % 3329)).set (st + j + s) ((f (st + j) - z * f (st + j + s)) % 3329) = vec (bfp z s st (j + 1) f) := by
  rw [vec_set, vec_set]
  refine vec_congr fun n _ => ?_
  by_cases h2 : n = st + j + s
  · subst h2
    rw [if_pos rfl]
    unfold bfp
    rw [if_neg (by omega), if_pos (by omega), show st + j + s - s = st + j by omega]
  · rw [if_neg h2]
    by_cases h1 : n = st + j
    · subst h1
      rw [if_pos rfl]
      unfold bfp
      rw [if_pos (by omega)]
    · rw [if_neg h1]
      unfold bfp
      by_cases a : st ≤ n ∧ n < st + j
      · rw [if_pos a, if_pos (by omega)]
      · have a' : ¬ (st ≤ n ∧ n < st + (j + 1)) := by omega
        rw [if_neg a, if_neg a']
        by_cases b : st + s ≤ n ∧ n < st + s + j
        · rw [if_pos b, if_pos (show st + s ≤ n ∧ n < st + s + (j + 1) by omega)]
        · rw [if_neg b, if_neg (show ¬ (st + s ≤ n ∧ n < st + s + (j + 1)) by omega)]
theorem bfp_swap (z : Int) (s st j : Nat) (f : Nat → Int) (hs : 1 ≤ s) (A B : Int) : ((vec (bfp z s st j f)).set (st + j + s) B).set (st + j) A = ((vec (bfp z s st j f)).set (st + j) A).set (st + j + s) B :=
  List.set_comm _ _ (by omega)

/-- A layer: the first t butterflies of m, each of s and s numbers. -/
def lay (s m : Nat) : Nat → (Nat → Int) → Nat → Int
  | 0, f => f
  | t + 1, f => bfp (zed (m + t)) s (2 * s * t) s (lay s m t f)
theorem lay_in {s m : Nat} {f : Nat → Int} (hf : ∀ i, 0 ≤ f i ∧ f i ≤ 3328) (t : Nat) : ∀ n, 0 ≤ lay s m t f n ∧ lay s m t f n ≤ 3328 := by
  induction t with
  | zero => exact hf
  | succ t ih => exact fun n => bfp_in ih n
def nttV (f : Nat → Int) : Nat → Int := lay 2 64 64 (lay 4 32 32 (lay 8 16 16 (lay 16 8 8 (lay 32 4 4 (lay 64 2 2 (lay 128 1 1 f))))))
theorem impl_Ntt_l2 (f : Nat → Int) (hf : ∀ i, 0 ≤ f i ∧ f i ≤ 3328) (z : Int) (hz : 0 ≤ z ∧ z ≤ 3328) (s st : Nat) (K : Int) (hs : 1 ≤ s) (hst : st + 2 * s ≤ 256) {r : List Int}
    (h : Ev (fun k => impl_Ntt.l1 k (vec (bfp z s st s f)) K (s : Int) ((st + 2 * s : Nat) : Int)) r) : Ev (fun k => impl_Ntt.l2 k (vec f) K (s : Int) (st : Int) z (st : Int)) r := by
  have e0 : vec f = vec (bfp z s st 0 f) := by rw [bfp_0]
  have w1 := wadd st s (by omega)
  rw [e0]
  refine Ev.up (g := fun j k => impl_Ntt.l2 k (vec (bfp z s st j f)) K (s : Int) (st : Int) z ((st + j : Nat) : Int)) s ?_ ?_ 0 (by omega)
  · intro j hj h'
    refine Ev.step (fun k => ?_) h'
    have c1 : st + j < st + s := Nat.add_lt_add_left hj _
    have c2 : st + j + s < 256 := Nat.lt_of_lt_of_le (Nat.add_lt_add_right c1 s) (Nat.le_trans (by rw [Nat.two_mul, Nat.add_assoc]; exact Nat.le_refl _) hst)
    have c3 : st + j < 256 := Nat.lt_of_le_of_lt (Nat.le_add_right _ s) c2
    have w2 := wadd (st + j) s (Nat.le_trans (Nat.le_of_lt c2) (by decide))
    have w3 : wrap64 (((st + j : Nat) : Int) + 1) = ((st + (j + 1) : Nat) : Int) := w64s (st + j) (Nat.lt_trans c3 (by decide))
    have hm := mul_bd hz (hf (st + j + s))
    have h1 := hf (st + j)
    simp only [impl_Ntt.l2]
    rw [w1]
    clear e0 w1
    rw [if_pos (Int.ofNat_lt.mpr c1), w2, if_pos (Int.natCast_nonneg _), if_pos (by rw [vec_length]; exact Int.ofNat_lt.mpr c2), if_pos (Int.natCast_nonneg _), if_pos (by rw [vec_length]; exact Int.ofNat_lt.mpr c3), vec_rd _ _ c3, vec_rd _ _ c2, bfp_at1 hj, bfp_at2, wmul_in hz (hf _), w64 (x := f (st + j) + z * f (st + j + s)) (by omega) (by omega), w64 (x := f (st + j) - z * f (st + j + s)) (by omega) (by omega), modQ_eq _ (by omega) (by omega), Option.bind_some, modQ_eq _ (by omega) (by omega), Option.bind_some, Int.toNat_natCast, Int.toNat_natCast, bfp_step z s st j f hj, w3]
  · refine Ev.step (fun k => ?_) h
    have c1 : ¬ ((st + s : Nat) : Int) < ((st + s : Nat) : Int) := Int.lt_irrefl _
    have w4 := wdbl s (by clear w1; omega)
    have w5 := wadd st (2 * s) (by clear w1 w4; omega)
    simp only [impl_Ntt.l2]
    rw [w1, if_neg c1, w4, w5]

theorem impl_Ntt_lay (s m : Nat) (hsm : 2 * s * m = 256) (hs : 1 ≤ s) (hm : 1 ≤ m) (f : Nat → Int) (hf : ∀ i, 0 ≤ f i ∧ f i ≤ 3328) (hs2 : 2 ≤ s) {r : List Int}
    (h : Ev (fun k => impl_Ntt.l0 k (vec (lay s m m f)) ((2 * m : Nat) : Int) ((s / 2 : Nat) : Int)) r) : Ev (fun k => impl_Ntt.l0 k (vec f) (m : Int) (s : Int)) r := by
  have hs128 : s ≤ 128 := by
    have : 2 * s * 1 ≤ 2 * s * m := Nat.mul_le_mul_left _ hm
    omega
  have hm128 : m ≤ 128 := by
    have : 2 * m ≤ 2 * s * m := Nat.mul_le_mul_right _ (by omega)
    omega
  refine Ev.step (f := fun k => impl_Ntt.l1 k (vec f) (m : Int) (s : Int) 0) (fun k => ?_) ?_
  · simp only [impl_Ntt.l0]
    rw [if_pos (by omega)]
  · refine Ev.up (g := fun t k => impl_Ntt.l1 k (vec (lay s m t f)) ((m + t : Nat) : Int) (s : Int) ((2 * s * t : Nat) : Int)) m ?_ ?_ 0 (by omega)
    · intro t ht h'
      have c0 : 2 * s * t + 2 * s ≤ 256 := by rw [← Nat.mul_succ, ← hsm]; exact Nat.mul_le_mul_left _ ht
      have ek : m + t < 128 := by
        have : 4 * m ≤ 2 * s * m := Nat.mul_le_mul_right _ (by omega)
        omega
      have w1 := w64s (m + t) (Nat.lt_trans ek (by decide))
      have h2 := impl_Ntt_l2 (lay s m t f) (lay_in hf t) (zed (m + t)) (zed_in _) s (2 * s * t) ((m + t + 1 : Nat) : Int) hs c0 h'
      have cond : ((2 * s * t : Nat) : Int) < 256 := by clear w1; omega
      refine Ev.step (f := fun k => (impl_Turn7.f k ((m + t : Nat) : Int)).bind fun t287 => ((impl_PowQ.f k 17 t287).bind fun t288 => (impl_Ntt.l2 k (vec (lay s m t f)) (wrap64 (((m + t : Nat) : Int) + 1)) (s : Int) ((2 * s * t : Nat) : Int) t288 ((2 * s * t : Nat) : Int)))) (fun k => ?_) ?_
      · simp only [impl_Ntt.l1]
        rw [if_pos cond]
      · rw [w1]
        exact Ev.bind (impl_Turn7_ev (m + t) ek) (Ev.bind (impl_PowQ_ev 17 (by decide) _ (Nat.le_trans (Nat.le_of_lt (t7_lt _)) (by decide))) h2)
    · refine Ev.step (fun k => ?_) h
      have w1 := whalf s (by omega)
      have c1 : ¬ ((2 * s * m : Nat) : Int) < 256 := by clear w1; omega
      simp only [impl_Ntt.l1]
      rw [if_neg c1, w1, show m + m = 2 * m by rw [Nat.two_mul]]
theorem impl_Ntt_ev (f : Nat → Int) (hf : ∀ i, 0 ≤ f i ∧ f i ≤ 3328) : Ev (fun k => impl_Ntt.f k (vec f)) (vec (nttV f)) := by
  have core : Ev (fun k => impl_Ntt.l0 k (vec f) 1 128) (vec (nttV f)) := by
    have i1 := lay_in (s := 128) (m := 1) hf 1
    have i2 := lay_in (s := 64) (m := 2) i1 2
    have i3 := lay_in (s := 32) (m := 4) i2 4
    have i4 := lay_in (s := 16) (m := 8) i3 8
    have i5 := lay_in (s := 8) (m := 16) i4 16
    have i6 := lay_in (s := 4) (m := 32) i5 32
    refine impl_Ntt_lay 128 1 (by decide) (by decide) (by decide) f hf (by decide) ?_
    refine impl_Ntt_lay 64 2 (by decide) (by decide) (by decide) _ i1 (by decide) ?_
    refine impl_Ntt_lay 32 4 (by decide) (by decide) (by decide) _ i2 (by decide) ?_
    refine impl_Ntt_lay 16 8 (by decide) (by decide) (by decide) _ i3 (by decide) ?_
    refine impl_Ntt_lay 8 16 (by decide) (by decide) (by decide) _ i4 (by decide) ?_
    refine impl_Ntt_lay 4 32 (by decide) (by decide) (by decide) _ i5 (by decide) ?_
    refine impl_Ntt_lay 2 64 (by decide) (by decide) (by decide) _ i6 (by decide) ?_
    refine Ev.step (f := fun _ => some (vec (nttV f))) (fun k => ?_) (Ev.now _)
    simp only [impl_Ntt.l0]
    rw [if_neg (by decide)]
    rfl
  unfold impl_Ntt.f
  have ok := vec_ok (f := f) fun i _ => hf i
  have ln := vec_length f
  refine Ev.bind (ok ▸ impl_PolyOk_ev (vec f) (by omega)) (Ev.pos rfl ?_)
  refine Ev.then (a := vec f) ?_ core
  unfold impl_copyInts.f
  rw [if_pos (by rw [ln]; decide), List.nil_append]

theorem spec_Ntt_l2 (f : Nat → Int) (hf : ∀ i, 0 ≤ f i ∧ f i ≤ 3328) (z : Int) (hz : 0 ≤ z ∧ z ≤ 3328) (s st : Nat) (K : Int) (hs : 1 ≤ s) (hst : st + 2 * s ≤ 256) {r : List Int}
    (h : Ev (fun k => spec_Ntt.l1 k (vec (bfp z s st s f)) K (s : Int) ((st + 2 * s : Nat) : Int)) r) : Ev (fun k => spec_Ntt.l2 k (vec f) K (s : Int) (st : Int) z (st : Int)) r := by
  have e0 : vec f = vec (bfp z s st 0 f) := by rw [bfp_0]
  have w1 := wadd st s (by omega)
  rw [e0]
  refine Ev.up (g := fun j k => spec_Ntt.l2 k (vec (bfp z s st j f)) K (s : Int) (st : Int) z ((st + j : Nat) : Int)) s ?_ ?_ 0 (by omega)
  · intro j hj h'
    refine Ev.step (fun k => ?_) h'
    have c1 : st + j < st + s := Nat.add_lt_add_left hj _
    have c2 : st + j + s < 256 := Nat.lt_of_lt_of_le (Nat.add_lt_add_right c1 s) (Nat.le_trans (by rw [Nat.two_mul, Nat.add_assoc]; exact Nat.le_refl _) hst)
    have c3 : st + j < 256 := Nat.lt_of_le_of_lt (Nat.le_add_right _ s) c2
    have w2 := wadd (st + j) s (Nat.le_trans (Nat.le_of_lt c2) (by decide))
    have w3 : wrap64 (((st + j : Nat) : Int) + 1) = ((st + (j + 1) : Nat) : Int) := w64s (st + j) (Nat.lt_trans c3 (by decide))
    have hm := mul_bd hz (hf (st + j + s))
    have h1 := hf (st + j)
    simp only [spec_Ntt.l2, Option.bind_some]
    rw [w1]
    clear e0 w1
    rw [if_pos (Int.ofNat_lt.mpr c1), w2, if_pos (Int.natCast_nonneg _), if_pos (by rw [vec_length]; exact Int.ofNat_lt.mpr c2), if_pos (Int.natCast_nonneg _), if_pos (by rw [vec_length]; exact Int.ofNat_lt.mpr c3), vec_rd _ _ c3, vec_rd _ _ c2, bfp_at1 hj, bfp_at2, sq_mod hz (hf _), Int.toNat_natCast, Int.toNat_natCast, vec_set, vec_rd _ _ c3, if_neg (show ¬ st + j = st + j + s by omega), bfp_at1 hj, ← vec_set]
    rw [show Int.tmod (wrap64 ((wrap64 (f (st + j) - z * f (st + j + s) % 3329)) + 3329)) 3329 = (f (st + j) - z * f (st + j + s)) % 3329 by
      rw [w64 (x := f (st + j) - z * f (st + j + s) % 3329) (by omega) (by omega), w64 (by omega) (by omega), Int.tmod_eq_emod_of_nonneg (by omega)]; omega]
    rw [show Int.tmod (wrap64 (f (st + j) + z * f (st + j + s) % 3329)) 3329 = (f (st + j) + z * f (st + j + s)) % 3329 by
      rw [w64 (by omega) (by omega), Int.tmod_eq_emod_of_nonneg (by omega)]; omega]
    rw [bfp_swap z s st j f hs, bfp_step z s st j f hj, w3]
  · refine Ev.step (fun k => ?_) h
    have c1 : ¬ ((st + s : Nat) : Int) < ((st + s : Nat) : Int) := Int.lt_irrefl _
    have w4 := wdbl s (by clear w1; omega)
    have w5 := wadd st (2 * s) (by clear w1 w4; omega)
    simp only [spec_Ntt.l2]
    rw [w1, if_neg c1, w4, w5]

theorem spec_Ntt_lay (s m : Nat) (hsm : 2 * s * m = 256) (hs : 1 ≤ s) (hm : 1 ≤ m) (f : Nat → Int) (hf : ∀ i, 0 ≤ f i ∧ f i ≤ 3328) (hs2 : 2 ≤ s) {r : List Int}
    (h : Ev (fun k => spec_Ntt.l0 k (vec (lay s m m f)) ((2 * m : Nat) : Int) ((s / 2 : Nat) : Int)) r) : Ev (fun k => spec_Ntt.l0 k (vec f) (m : Int) (s : Int)) r := by
  have hs128 : s ≤ 128 := by
    have : 2 * s * 1 ≤ 2 * s * m := Nat.mul_le_mul_left _ hm
    omega
  have hm128 : m ≤ 128 := by
    have : 2 * m ≤ 2 * s * m := Nat.mul_le_mul_right _ (by omega)
    omega
  refine Ev.step (f := fun k => spec_Ntt.l1 k (vec f) (m : Int) (s : Int) 0) (fun k => ?_) ?_
  · simp only [spec_Ntt.l0]
    rw [if_pos (by omega)]
  · refine Ev.up (g := fun t k => spec_Ntt.l1 k (vec (lay s m t f)) ((m + t : Nat) : Int) (s : Int) ((2 * s * t : Nat) : Int)) m ?_ ?_ 0 (by omega)
    · intro t ht h'
      have c0 : 2 * s * t + 2 * s ≤ 256 := by rw [← Nat.mul_succ, ← hsm]; exact Nat.mul_le_mul_left _ ht
      have ek : m + t < 128 := by
        have : 4 * m ≤ 2 * s * m := Nat.mul_le_mul_right _ (by omega)
        omega
      have w1 := w64s (m + t) (Nat.lt_trans ek (by decide))
      have h2 := spec_Ntt_l2 (lay s m t f) (lay_in hf t) (zed (m + t)) (zed_in _) s (2 * s * t) ((m + t + 1 : Nat) : Int) hs c0 h'
      have cond : ((2 * s * t : Nat) : Int) < 256 := by clear w1; omega
      refine Ev.step (f := fun k => (spec_Turn7.f k ((m + t : Nat) : Int)).bind fun t287 => ((spec_PowQ.f k 17 t287).bind fun t288 => (spec_Ntt.l2 k (vec (lay s m t f)) (wrap64 (((m + t : Nat) : Int) + 1)) (s : Int) ((2 * s * t : Nat) : Int) t288 ((2 * s * t : Nat) : Int)))) (fun k => ?_) ?_
      · simp only [spec_Ntt.l1]
        rw [if_pos cond]
      · rw [w1]
        exact Ev.bind (spec_Turn7_ev (m + t) ek) (Ev.bind (spec_PowQ_ev 17 (by decide) _ (Nat.le_trans (Nat.le_of_lt (t7_lt _)) (by decide))) h2)
    · refine Ev.step (fun k => ?_) h
      have w1 := whalf s (by omega)
      have c1 : ¬ ((2 * s * m : Nat) : Int) < 256 := by clear w1; omega
      simp only [spec_Ntt.l1]
      rw [if_neg c1, w1, show m + m = 2 * m by rw [Nat.two_mul]]
theorem spec_Ntt_ev (f : Nat → Int) (hf : ∀ i, 0 ≤ f i ∧ f i ≤ 3328) : Ev (fun k => spec_Ntt.f k (vec f)) (vec (nttV f)) := by
  have core : Ev (fun k => spec_Ntt.l0 k (vec f) 1 128) (vec (nttV f)) := by
    have i1 := lay_in (s := 128) (m := 1) hf 1
    have i2 := lay_in (s := 64) (m := 2) i1 2
    have i3 := lay_in (s := 32) (m := 4) i2 4
    have i4 := lay_in (s := 16) (m := 8) i3 8
    have i5 := lay_in (s := 8) (m := 16) i4 16
    have i6 := lay_in (s := 4) (m := 32) i5 32
    refine spec_Ntt_lay 128 1 (by decide) (by decide) (by decide) f hf (by decide) ?_
    refine spec_Ntt_lay 64 2 (by decide) (by decide) (by decide) _ i1 (by decide) ?_
    refine spec_Ntt_lay 32 4 (by decide) (by decide) (by decide) _ i2 (by decide) ?_
    refine spec_Ntt_lay 16 8 (by decide) (by decide) (by decide) _ i3 (by decide) ?_
    refine spec_Ntt_lay 8 16 (by decide) (by decide) (by decide) _ i4 (by decide) ?_
    refine spec_Ntt_lay 4 32 (by decide) (by decide) (by decide) _ i5 (by decide) ?_
    refine spec_Ntt_lay 2 64 (by decide) (by decide) (by decide) _ i6 (by decide) ?_
    refine Ev.step (f := fun _ => some (vec (nttV f))) (fun k => ?_) (Ev.now _)
    simp only [spec_Ntt.l0]
    rw [if_neg (by decide)]
    rfl
  unfold spec_Ntt.f
  have ok := vec_ok (f := f) fun i _ => hf i
  have ln := vec_length f
  refine Ev.bind (ok ▸ spec_PolyOk_ev (vec f)) (Ev.pos rfl ?_)
  simp only [Option.bind_some]
  refine Ev.pos (by rw [ln]; decide) ?_
  rw [List.nil_append]
  exact core

/-- A butterfly back on the numbers from st on, s of them with the s behind; the first j of them done. -/
def bfi (z : Int) (s st j : Nat) (f : Nat → Int) : Nat → Int := fun n =>
  if st ≤ n ∧ n < st + j then (f n + f (n + s)) % 3329 else if st + s ≤ n ∧ n < st + s + j then (z * (f n - f (n - s))) % 3329 else f n
theorem bfi_0 (z : Int) (s st : Nat) (f : Nat → Int) : bfi z s st 0 f = f := by
  funext n; unfold bfi; rw [if_neg (by omega), if_neg (by omega)]
theorem bfi_in {z : Int} {s st j : Nat} {f : Nat → Int} (hf : ∀ i, 0 ≤ f i ∧ f i ≤ 3328) (n : Nat) : 0 ≤ bfi z s st j f n ∧ bfi z s st j f n ≤ 3328 := by
  unfold bfi
  split
  · exact mod_in _
  · split
    · exact mod_in _
    · exact hf n
theorem bfi_at1 {z : Int} {s st j : Nat} {f : Nat → Int} (h : j < s) : bfi z s st j f (st + j) = f (st + j) := by
  unfold bfi; rw [if_neg (by omega), if_neg (by omega)]
theorem bfi_at2 {z : Int} {s st j : Nat} {f : Nat → Int} : bfi z s st j f (st + j + s) = f (st + j + s) := by
  unfold bfi; rw [if_neg (by omega), if_neg (by omega)]
theorem bfi_step (z : Int) (s st j : Nat) (f : Nat → Int) (hj : j < s) : ((vec (bfi z s st j f)).set (st + j) ((f (st + j) + f (st + j + s)) % 3329)).set (st + j + s) ((z * (f (st + j + s) - f (st + j))) % 3329) = vec (bfi z s st (j + 1) f) := by
  rw [vec_set, vec_set]
  refine vec_congr fun n _ => ?_
  by_cases h2 : n = st + j + s
  · subst h2
    rw [if_pos rfl]
    unfold bfi
    rw [if_neg (by omega), if_pos (by omega), show st + j + s - s = st + j by omega]
  · rw [if_neg h2]
    by_cases h1 : n = st + j
    · subst h1
      rw [if_pos rfl]
      unfold bfi
      rw [if_pos (by omega)]
    · rw [if_neg h1]
      unfold bfi
      by_cases a : st ≤ n ∧ n < st + j
      · rw [if_pos a, if_pos (by omega)]
      · have a' : ¬ (st ≤ n ∧ n < st + (j + 1)) := by omega
        rw [if_neg a, if_neg a']
        by_cases b : st + s ≤ n ∧ n < st + s + j
        · rw [if_pos b, if_pos (show st + s ≤ n ∧ n < st + s + (j + 1) by omega)]
        · rw [if_neg b, if_neg (show ¬ (st + s ≤ n ∧ n < st + s + (j + 1)) by omega)]
/-- A layer back: the first t butterflies of m, each of s and s numbers; the powers are taken from 2m-1 downwards. -/
def layI (s m : Nat) : Nat → (Nat → Int) → Nat → Int
  | 0, f => f
  | t + 1, f => bfi (zed (2 * m - 1 - t)) s (2 * s * t) s (layI s m t f)
theorem layI_in {s m : Nat} {f : Nat → Int} (hf : ∀ i, 0 ≤ f i ∧ f i ≤ 3328) (t : Nat) : ∀ n, 0 ≤ layI s m t f n ∧ layI s m t f n ≤ 3328 := by
  induction t with
  | zero => exact hf
  | succ t ih => exact fun n => bfi_in ih n
def invV (f : Nat → Int) : Nat → Int := fun n => layI 128 1 1 (layI 64 2 2 (layI 32 4 4 (layI 16 8 8 (layI 8 16 16 (layI 4 32 32 (layI 2 64 64 f)))))) n * 3303 % 3329

theorem mul_bd2 {z x y : Int} (hz : 0 ≤ z ∧ z ≤ 3328) (hx : 0 ≤ x ∧ x ≤ 3328) (hy : 0 ≤ y ∧ y ≤ 3328) : -11075584 ≤ z * (y - x) ∧ z * (y - x) ≤ 11075584 := by
  have h1 := mul_bd hz hx
  have h2 := mul_bd hz hy
  rw [Int.mul_sub]
  omega
theorem impl_InvNtt_l2 (f : Nat → Int) (hf : ∀ i, 0 ≤ f i ∧ f i ≤ 3328) (z : Int) (hz : 0 ≤ z ∧ z ≤ 3328) (s st : Nat) (K : Int) (hs : 1 ≤ s) (hst : st + 2 * s ≤ 256) {r : List Int}
    (h : Ev (fun k => impl_InvNtt.l1 k (vec (bfi z s st s f)) K (s : Int) ((st + 2 * s : Nat) : Int)) r) : Ev (fun k => impl_InvNtt.l2 k (vec f) K (s : Int) (st : Int) z (st : Int)) r := by
  have e0 : vec f = vec (bfi z s st 0 f) := by rw [bfi_0]
  have w1 := wadd st s (by omega)
  rw [e0]
  refine Ev.up (g := fun j k => impl_InvNtt.l2 k (vec (bfi z s st j f)) K (s : Int) (st : Int) z ((st + j : Nat) : Int)) s ?_ ?_ 0 (by omega)
  · intro j hj h'
    refine Ev.step (fun k => ?_) h'
    have c1 : st + j < st + s := Nat.add_lt_add_left hj _
    have c2 : st + j + s < 256 := Nat.lt_of_lt_of_le (Nat.add_lt_add_right c1 s) (Nat.le_trans (by rw [Nat.two_mul, Nat.add_assoc]; exact Nat.le_refl _) hst)
    have c3 : st + j < 256 := Nat.lt_of_le_of_lt (Nat.le_add_right _ s) c2
    have w2 := wadd (st + j) s (Nat.le_trans (Nat.le_of_lt c2) (by decide))
    have w3 : wrap64 (((st + j : Nat) : Int) + 1) = ((st + (j + 1) : Nat) : Int) := w64s (st + j) (Nat.lt_trans c3 (by decide))
    have h1 := hf (st + j)
    have h2 := hf (st + j + s)
    have hm := mul_bd2 hz h1 h2
    simp only [impl_InvNtt.l2]
    rw [w1]
    clear e0 w1
    rw [if_pos (Int.ofNat_lt.mpr c1), w2, if_pos (Int.natCast_nonneg _), if_pos (by rw [vec_length]; exact Int.ofNat_lt.mpr c3), if_pos (Int.natCast_nonneg _), if_pos (by rw [vec_length]; exact Int.ofNat_lt.mpr c2), vec_rd _ _ c3, vec_rd _ _ c2, bfi_at1 hj, bfi_at2, w64 (x := f (st + j) + f (st + j + s)) (by omega) (by omega), w64 (x := f (st + j + s) - f (st + j)) (by omega) (by omega), w64 (x := z * (f (st + j + s) - f (st + j))) (by omega) (by omega), modQ_eq _ (by omega) (by omega), Option.bind_some, modQ_eq _ (by omega) (by omega), Option.bind_some, Int.toNat_natCast, Int.toNat_natCast, bfi_step z s st j f hj, w3]
  · refine Ev.step (fun k => ?_) h
    have c1 : ¬ ((st + s : Nat) : Int) < ((st + s : Nat) : Int) := Int.lt_irrefl _
    have w4 := wdbl s (by clear w1; omega)
    have w5 := wadd st (2 * s) (by clear w1 w4; omega)
    simp only [impl_InvNtt.l2]
    rw [w1, if_neg c1, w4, w5]


theorem wpred (a : Nat) (h1 : 1 ≤ a) (h : a ≤ 100000) : wrap64 ((a : Int) - 1) = ((a - 1 : Nat) : Int) := by rw [w64 (by omega) (by omega)]; omega
theorem wtwice (a : Nat) (h : a ≤ 100000) : wrap64 ((a : Int) * 2) = ((a * 2 : Nat) : Int) := by rw [w64 (by omega) (by omega)]; omega
theorem impl_InvNtt_lay (s m : Nat) (hsm : 2 * s * m = 256) (hs : 2 ≤ s) (hm : 1 ≤ m) (f : Nat → Int) (hf : ∀ i, 0 ≤ f i ∧ f i ≤ 3328) {r : List Int}
    (h : Ev (fun k => impl_InvNtt.l0 k (vec (layI s m m f)) ((2 * m - 1 - m : Nat) : Int) ((s * 2 : Nat) : Int)) r) : Ev (fun k => impl_InvNtt.l0 k (vec f) ((2 * m - 1 : Nat) : Int) (s : Int)) r := by
  have hs128 : s ≤ 128 := by
    have : 2 * s * 1 ≤ 2 * s * m := Nat.mul_le_mul_left _ hm
    omega
  have hm64 : 2 * m ≤ 128 := by
    have : 4 * m ≤ 2 * s * m := Nat.mul_le_mul_right _ (by omega)
    omega
  refine Ev.step (f := fun k => impl_InvNtt.l1 k (vec f) ((2 * m - 1 : Nat) : Int) (s : Int) 0) (fun k => ?_) ?_
  · simp only [impl_InvNtt.l0]
    rw [if_pos (by omega)]
  · refine Ev.up (g := fun t k => impl_InvNtt.l1 k (vec (layI s m t f)) ((2 * m - 1 - t : Nat) : Int) (s : Int) ((2 * s * t : Nat) : Int)) m ?_ ?_ 0 (by omega)
    · intro t ht h'
      have c0 : 2 * s * t + 2 * s ≤ 256 := by rw [← Nat.mul_succ, ← hsm]; exact Nat.mul_le_mul_left _ ht
      have ek : 2 * m - 1 - t < 128 := by omega
      have w1 := wpred (2 * m - 1 - t) (by omega) (by omega)
      have e1 : 2 * m - 1 - t - 1 = 2 * m - 1 - (t + 1) := by clear w1; omega
      rw [e1] at w1
      have h2 := impl_InvNtt_l2 (layI s m t f) (layI_in hf t) (zed (2 * m - 1 - t)) (zed_in _) s (2 * s * t) ((2 * m - 1 - (t + 1) : Nat) : Int) (Nat.le_trans (by decide) hs) c0 h'
      have cond : ((2 * s * t : Nat) : Int) < 256 := by clear w1; omega
      refine Ev.step (f := fun k => (impl_Turn7.f k ((2 * m - 1 - t : Nat) : Int)).bind fun t300 => ((impl_PowQ.f k 17 t300).bind fun t301 => (impl_InvNtt.l2 k (vec (layI s m t f)) (wrap64 (((2 * m - 1 - t : Nat) : Int) - 1)) (s : Int) ((2 * s * t : Nat) : Int) t301 ((2 * s * t : Nat) : Int)))) (fun k => ?_) ?_
      · simp only [impl_InvNtt.l1]
        rw [if_pos cond]
      · rw [w1]
        exact Ev.bind (impl_Turn7_ev _ ek) (Ev.bind (impl_PowQ_ev 17 (by decide) _ (Nat.le_trans (Nat.le_of_lt (t7_lt _)) (by decide))) h2)
    · refine Ev.step (fun k => ?_) h
      have w1 := wtwice s (by omega)
      have c1 : ¬ ((2 * s * m : Nat) : Int) < 256 := by clear w1; omega
      simp only [impl_InvNtt.l1]
      rw [if_neg c1, w1]

theorem spec_back {z x y : Int} (hz : 0 ≤ z ∧ z ≤ 3328) (hx : 0 ≤ x ∧ x ≤ 3328) (hy : 0 ≤ y ∧ y ≤ 3328) : Int.tmod (wrap64 (z * (wrap64 ((wrap64 (y - x)) + 3329)))) 3329 = z * (y - x) % 3329 := by
  have h0 := mul_bd2 hz hx hy
  have e : z * (y - x + 3329) = z * (y - x) + 3329 * z := by rw [Int.mul_add, Int.mul_comm z 3329]
  have hn : 0 ≤ z * (y - x + 3329) := Int.mul_nonneg hz.1 (by omega)
  rw [w64 (x := y - x) (by omega) (by omega), w64 (x := y - x + 3329) (by omega) (by omega), w64 (x := z * (y - x + 3329)) (by omega) (by omega), Int.tmod_eq_emod_of_nonneg hn, e]
  omega
theorem spec_InvNtt_l2 (f : Nat → Int) (hf : ∀ i, 0 ≤ f i ∧ f i ≤ 3328) (z : Int) (hz : 0 ≤ z ∧ z ≤ 3328) (s st : Nat) (K : Int) (hs : 1 ≤ s) (hst : st + 2 * s ≤ 256) {r : List Int}
    (h : Ev (fun k => spec_InvNtt.l1 k (vec (bfi z s st s f)) K (s : Int) ((st + 2 * s : Nat) : Int)) r) : Ev (fun k => spec_InvNtt.l2 k (vec f) K (s : Int) (st : Int) z (st : Int)) r := by
  have e0 : vec f = vec (bfi z s st 0 f) := by rw [bfi_0]
  have w1 := wadd st s (by omega)
  rw [e0]
  refine Ev.up (g := fun j k => spec_InvNtt.l2 k (vec (bfi z s st j f)) K (s : Int) (st : Int) z ((st + j : Nat) : Int)) s ?_ ?_ 0 (by omega)
  · intro j hj h'
    refine Ev.step (fun k => ?_) h'
    have c1 : st + j < st + s := Nat.add_lt_add_left hj _
    have c2 : st + j + s < 256 := Nat.lt_of_lt_of_le (Nat.add_lt_add_right c1 s) (Nat.le_trans (by rw [Nat.two_mul, Nat.add_assoc]; exact Nat.le_refl _) hst)
    have c3 : st + j < 256 := Nat.lt_of_le_of_lt (Nat.le_add_right _ s) c2
    have w2 := wadd (st + j) s (Nat.le_trans (Nat.le_of_lt c2) (by decide))
    have w3 : wrap64 (((st + j : Nat) : Int) + 1) = ((st + (j + 1) : Nat) : Int) := w64s (st + j) (Nat.lt_trans c3 (by decide))
    have h1 := hf (st + j)
    have h2 := hf (st + j + s)
    have hm := mul_bd2 hz h1 h2
    have nj : ¬ st + j + s = st + j := by clear e0 w1 w2; omega
    have ey : ∀ v : Int, rd ((vec (bfi z s st j f)).set (st + j) v) ((st + j + s : Nat) : Int) = f (st + j + s) := by
      intro v
      rw [vec_set, vec_rd _ _ c2, if_neg nj, bfi_at2]
    have em := spec_back hz h1 h2
    simp only [spec_InvNtt.l2, Option.bind_some]
    rw [w1]
    clear e0 w1
    rw [if_pos (Int.ofNat_lt.mpr c1), w2, if_pos (Int.natCast_nonneg _), if_pos (by rw [vec_length]; exact Int.ofNat_lt.mpr c3), if_pos (Int.natCast_nonneg _), if_pos (by rw [vec_length]; exact Int.ofNat_lt.mpr c2), Int.toNat_natCast, Int.toNat_natCast, ey, vec_rd _ _ c3, bfi_at1 hj, vec_rd _ _ c2, bfi_at2, em, w64 (x := f (st + j) + f (st + j + s)) (by omega) (by omega), Int.tmod_eq_emod_of_nonneg (show 0 ≤ f (st + j) + f (st + j + s) by omega), bfi_step z s st j f hj, w3]
  · refine Ev.step (fun k => ?_) h
    have c1 : ¬ ((st + s : Nat) : Int) < ((st + s : Nat) : Int) := Int.lt_irrefl _
    have w4 := wdbl s (by clear w1; omega)
    have w5 := wadd st (2 * s) (by clear w1 w4; omega)
    simp only [spec_InvNtt.l2]
    rw [w1, if_neg c1, w4, w5]

theorem spec_InvNtt_lay (s m : Nat) (hsm : 2 * s * m = 256) (hs : 2 ≤ s) (hm : 1 ≤ m) (f : Nat → Int) (hf : ∀ i, 0 ≤ f i ∧ f i ≤ 3328) {r : List Int}
    (h : Ev (fun k => spec_InvNtt.l0 k (vec (layI s m m f)) ((2 * m - 1 - m : Nat) : Int) ((s * 2 : Nat) : Int)) r) : Ev (fun k => spec_InvNtt.l0 k (vec f) ((2 * m - 1 : Nat) : Int) (s : Int)) r := by
  have hs128 : s ≤ 128 := by
    have : 2 * s * 1 ≤ 2 * s * m := Nat.mul_le_mul_left _ hm
    omega
  have hm64 : 2 * m ≤ 128 := by
    have : 4 * m ≤ 2 * s * m := Nat.mul_le_mul_right _ (by omega)
    omega
  refine Ev.step (f := fun k => spec_InvNtt.l1 k (vec f) ((2 * m - 1 : Nat) : Int) (s : Int) 0) (fun k => ?_) ?_
  · simp only [spec_InvNtt.l0]
    rw [if_pos (by omega)]
  · refine Ev.up (g := fun t k => spec_InvNtt.l1 k (vec (layI s m t f)) ((2 * m - 1 - t : Nat) : Int) (s : Int) ((2 * s * t : Nat) : Int)) m ?_ ?_ 0 (by omega)
    · intro t ht h'
      have c0 : 2 * s * t + 2 * s ≤ 256 := by rw [← Nat.mul_succ, ← hsm]; exact Nat.mul_le_mul_left _ ht
      have ek : 2 * m - 1 - t < 128 := by omega
      have w1 := wpred (2 * m - 1 - t) (by omega) (by omega)
      have e1 : 2 * m - 1 - t - 1 = 2 * m - 1 - (t + 1) := by clear w1; omega
      rw [e1] at w1
      have h2 := spec_InvNtt_l2 (layI s m t f) (layI_in hf t) (zed (2 * m - 1 - t)) (zed_in _) s (2 * s * t) ((2 * m - 1 - (t + 1) : Nat) : Int) (Nat.le_trans (by decide) hs) c0 h'
      have cond : ((2 * s * t : Nat) : Int) < 256 := by clear w1; omega
      refine Ev.step (f := fun k => (spec_Turn7.f k ((2 * m - 1 - t : Nat) : Int)).bind fun t300 => ((spec_PowQ.f k 17 t300).bind fun t301 => (spec_InvNtt.l2 k (vec (layI s m t f)) (wrap64 (((2 * m - 1 - t : Nat) : Int) - 1)) (s : Int) ((2 * s * t : Nat) : Int) t301 ((2 * s * t : Nat) : Int)))) (fun k => ?_) ?_
      · simp only [spec_InvNtt.l1]
        rw [if_pos cond]
      · rw [w1]
        exact Ev.bind (spec_Turn7_ev _ ek) (Ev.bind (spec_PowQ_ev 17 (by decide) _ (Nat.le_trans (Nat.le_of_lt (t7_lt _)) (by decide))) h2)
    · refine Ev.step (fun k => ?_) h
      have w1 := wtwice s (by omega)
      have c1 : ¬ ((2 * s * m : Nat) : Int) < 256 := by clear w1; omega
      simp only [spec_InvNtt.l1]
      rw [if_neg c1, w1]

def fin3 (f : Nat → Int) (i : Nat) : Nat → Int := fun n => if n < i then f n * 3303 % 3329 else f n
theorem fin3_0 (f : Nat → Int) : fin3 f 0 = f := rfl
theorem fin3_all (f : Nat → Int) : vec (fin3 f 256) = vec fun n => f n * 3303 % 3329 := vec_congr fun _ hn => if_pos hn
theorem fin3_step (f : Nat → Int) (i : Nat) : (vec (fin3 f i)).set i (f i * 3303 % 3329) = vec (fin3 f (i + 1)) := by
  rw [vec_set]
  refine vec_congr fun n _ => ?_
  unfold fin3
  by_cases e : n = i
  · subst e; rw [if_pos rfl, if_pos (by omega)]
  · rw [if_neg e]
    by_cases h : n < i
    · rw [if_pos h, if_pos (by omega)]
    · rw [if_neg h, if_neg (by omega)]
theorem impl_InvNtt_l3 (f : Nat → Int) (hf : ∀ i, 0 ≤ f i ∧ f i ≤ 3328) : Ev (fun k => impl_InvNtt.l3 k (vec f) ((256 : Nat) : Int) 0) (vec fun n => f n * 3303 % 3329) := by
  have e0 : vec f = vec (fin3 f 0) := by rw [fin3_0]
  rw [e0]
  refine Ev.up (g := fun i k => impl_InvNtt.l3 k (vec (fin3 f i)) ((256 : Nat) : Int) (i : Int)) 256 ?_ ?_ 0 (by omega)
  · intro i hi h
    refine Ev.step (fun k => ?_) h
    have hb := hf i
    have ei : fin3 f i i = f i := if_neg (Nat.lt_irrefl _)
    simp only [impl_InvNtt.l3]
    rw [if_pos (by omega), if_pos (by omega), if_pos (by rw [vec_length]; omega), vec_rd _ _ hi, ei, w64 (x := f i * 3303) (by omega) (by omega), modQ_eq _ (by omega) (by omega), Option.bind_some, Int.toNat_natCast, fin3_step, w64s i (by omega)]
  · refine Ev.step (f := fun _ => some (vec (fin3 f 256))) (fun k => ?_) ?_
    · simp only [impl_InvNtt.l3]
      rw [if_neg (by omega)]
    · rw [fin3_all]; exact Ev.now _
theorem spec_InvNtt_l3 (f : Nat → Int) (hf : ∀ i, 0 ≤ f i ∧ f i ≤ 3328) : Ev (fun k => spec_InvNtt.l3 k (vec f) 0) (vec fun n => f n * 3303 % 3329) := by
  have e0 : vec f = vec (fin3 f 0) := by rw [fin3_0]
  rw [e0]
  refine Ev.up (g := fun i k => spec_InvNtt.l3 k (vec (fin3 f i)) (i : Int)) 256 ?_ ?_ 0 (by omega)
  · intro i hi h
    refine Ev.step (fun k => ?_) h
    have hb := hf i
    have ei : fin3 f i i = f i := if_neg (Nat.lt_irrefl _)
    simp only [spec_InvNtt.l3]
    rw [if_pos (by omega), if_pos (by omega), if_pos (by rw [vec_length]; omega), vec_rd _ _ hi, ei, w64 (x := f i * 3303) (by omega) (by omega), Int.tmod_eq_emod_of_nonneg (show 0 ≤ f i * 3303 by omega), Int.toNat_natCast, fin3_step, w64s i (by omega)]
  · refine Ev.step (f := fun _ => some (vec (fin3 f 256))) (fun k => ?_) ?_
    · simp only [spec_InvNtt.l3]
      rw [if_neg (by omega)]
    · rw [fin3_all]; exact Ev.now _
theorem impl_InvNtt_ev (f : Nat → Int) (hf : ∀ i, 0 ≤ f i ∧ f i ≤ 3328) : Ev (fun k => impl_InvNtt.f k (vec f)) (vec (invV f)) := by
  have core : Ev (fun k => impl_InvNtt.l0 k (vec f) 127 2) (vec (invV f)) := by
    have i1 := layI_in (s := 2) (m := 64) hf 64
    have i2 := layI_in (s := 4) (m := 32) i1 32
    have i3 := layI_in (s := 8) (m := 16) i2 16
    have i4 := layI_in (s := 16) (m := 8) i3 8
    have i5 := layI_in (s := 32) (m := 4) i4 4
    have i6 := layI_in (s := 64) (m := 2) i5 2
    have i7 := layI_in (s := 128) (m := 1) i6 1
    refine impl_InvNtt_lay 2 64 (by decide) (by decide) (by decide) f hf ?_
    refine impl_InvNtt_lay 4 32 (by decide) (by decide) (by decide) _ i1 ?_
    refine impl_InvNtt_lay 8 16 (by decide) (by decide) (by decide) _ i2 ?_
    refine impl_InvNtt_lay 16 8 (by decide) (by decide) (by decide) _ i3 ?_
    refine impl_InvNtt_lay 32 4 (by decide) (by decide) (by decide) _ i4 ?_
    refine impl_InvNtt_lay 64 2 (by decide) (by decide) (by decide) _ i5 ?_
    refine impl_InvNtt_lay 128 1 (by decide) (by decide) (by decide) _ i6 ?_
    refine Ev.step (fun k => ?_) (impl_InvNtt_l3 _ i7)
    simp only [impl_InvNtt.l0]
    rw [if_neg (by decide), vec_length]
  unfold impl_InvNtt.f
  have ok := vec_ok (f := f) fun i _ => hf i
  have ln := vec_length f
  refine Ev.bind (ok ▸ impl_PolyOk_ev (vec f) (by omega)) (Ev.pos rfl ?_)
  refine Ev.then (a := vec f) ?_ core
  unfold impl_copyInts.f
  rw [if_pos (by rw [ln]; decide), List.nil_append]

theorem spec_InvNtt_ev (f : Nat → Int) (hf : ∀ i, 0 ≤ f i ∧ f i ≤ 3328) : Ev (fun k => spec_InvNtt.f k (vec f)) (vec (invV f)) := by
  have core : Ev (fun k => spec_InvNtt.l0 k (vec f) 127 2) (vec (invV f)) := by
    have i1 := layI_in (s := 2) (m := 64) hf 64
    have i2 := layI_in (s := 4) (m := 32) i1 32
    have i3 := layI_in (s := 8) (m := 16) i2 16
    have i4 := layI_in (s := 16) (m := 8) i3 8
    have i5 := layI_in (s := 32) (m := 4) i4 4
    have i6 := layI_in (s := 64) (m := 2) i5 2
    have i7 := layI_in (s := 128) (m := 1) i6 1
    refine spec_InvNtt_lay 2 64 (by decide) (by decide) (by decide) f hf ?_
    refine spec_InvNtt_lay 4 32 (by decide) (by decide) (by decide) _ i1 ?_
    refine spec_InvNtt_lay 8 16 (by decide) (by decide) (by decide) _ i2 ?_
    refine spec_InvNtt_lay 16 8 (by decide) (by decide) (by decide) _ i3 ?_
    refine spec_InvNtt_lay 32 4 (by decide) (by decide) (by decide) _ i4 ?_
    refine spec_InvNtt_lay 64 2 (by decide) (by decide) (by decide) _ i5 ?_
    refine spec_InvNtt_lay 128 1 (by decide) (by decide) (by decide) _ i6 ?_
    refine Ev.step (fun k => ?_) (spec_InvNtt_l3 _ i7)
    simp only [spec_InvNtt.l0]
    rw [if_neg (by decide)]
  unfold spec_InvNtt.f
  have ok := vec_ok (f := f) fun i _ => hf i
  have ln := vec_length f
  refine Ev.bind (ok ▸ spec_PolyOk_ev (vec f)) (Ev.pos rfl ?_)
  simp only [Option.bind_some]
  refine Ev.pos (by rw [ln]; decide) ?_
  rw [List.nil_append]
  exact core

def gam (i : Nat) : Int := pw 17 (2 * t7s i 7 + 1)
theorem gam_in (i : Nat) : 0 ≤ gam i ∧ gam i ≤ 3328 := pw_in _ _
def mnE (a b : Nat → Int) (i : Nat) : Int := (a (2 * i) * b (2 * i) + a (2 * i + 1) * b (2 * i + 1) % 3329 * gam i) % 3329
def mnO (a b : Nat → Int) (i : Nat) : Int := (a (2 * i) * b (2 * i + 1) + a (2 * i + 1) * b (2 * i)) % 3329
def mulNttV (a b : Nat → Int) (n : Nat) : Int := if n % 2 = 0 then mnE a b (n / 2) else mnO a b (n / 2)
theorem mulNttV_e (a b : Nat → Int) (i : Nat) : mulNttV a b (2 * i) = mnE a b i := by
  unfold mulNttV; rw [if_pos (by omega), show 2 * i / 2 = i by omega]
theorem mulNttV_o (a b : Nat → Int) (i : Nat) : mulNttV a b (2 * i + 1) = mnO a b i := by
  unfold mulNttV; rw [if_neg (by omega), show (2 * i + 1) / 2 = i by omega]
theorem turn2 (i : Nat) : wrap64 ((wrap64 (2 * ((t7s i 7 : Nat) : Int))) + 1) = ((2 * t7s i 7 + 1 : Nat) : Int) := by
  have h := t7_lt i
  have h1 : t7s i 7 ≤ 100000 := by omega
  have h2 : 2 * t7s i 7 < 9223372036854775807 := by omega
  rw [wdbl _ h1, w64s _ h2]
theorem pow17_ok (i : Nat) : 2 * t7s i 7 + 1 ≤ 1000000000 := by have := t7_lt i; omega
theorem mnE_w (a b : Nat → Int) (ha : ∀ i, 0 ≤ a i ∧ a i ≤ 3328) (hb : ∀ i, 0 ≤ b i ∧ b i ≤ 3328) (i : Nat) :
    wrap64 ((wrap64 (a (2 * i) * b (2 * i))) + (wrap64 ((Int.tmod (wrap64 (a (2 * i + 1) * b (2 * i + 1))) 3329) * gam i))) = a (2 * i) * b (2 * i) + a (2 * i + 1) * b (2 * i + 1) % 3329 * gam i := by
  have h1 := mul_bd (ha (2 * i)) (hb (2 * i))
  have h2 := mul_bd (mod_in (a (2 * i + 1) * b (2 * i + 1))) (gam_in i)
  rw [sq_mod (ha _) (hb _), wmul_in (ha _) (hb _), wmul_in (mod_in _) (gam_in i)]
  exact w64 (by omega) (by omega)
theorem mnE_bd (a b : Nat → Int) (ha : ∀ i, 0 ≤ a i ∧ a i ≤ 3328) (hb : ∀ i, 0 ≤ b i ∧ b i ≤ 3328) (i : Nat) : 0 ≤ a (2 * i) * b (2 * i) + a (2 * i + 1) * b (2 * i + 1) % 3329 * gam i ∧ a (2 * i) * b (2 * i) + a (2 * i + 1) * b (2 * i + 1) % 3329 * gam i ≤ 9223372036854775807 := by
  have h1 := mul_bd (ha (2 * i)) (hb (2 * i))
  have h2 := mul_bd (mod_in (a (2 * i + 1) * b (2 * i + 1))) (gam_in i)
  omega
theorem mnO_w (a b : Nat → Int) (ha : ∀ i, 0 ≤ a i ∧ a i ≤ 3328) (hb : ∀ i, 0 ≤ b i ∧ b i ≤ 3328) (i : Nat) :
    wrap64 ((wrap64 (a (2 * i) * b (2 * i + 1))) + (wrap64 (a (2 * i + 1) * b (2 * i)))) = a (2 * i) * b (2 * i + 1) + a (2 * i + 1) * b (2 * i) := by
  have h1 := mul_bd (ha (2 * i)) (hb (2 * i + 1))
  have h2 := mul_bd (ha (2 * i + 1)) (hb (2 * i))
  rw [wmul_in (ha _) (hb _), wmul_in (ha _) (hb _)]
  exact w64 (by omega) (by omega)
theorem mnO_bd (a b : Nat → Int) (ha : ∀ i, 0 ≤ a i ∧ a i ≤ 3328) (hb : ∀ i, 0 ≤ b i ∧ b i ≤ 3328) (i : Nat) : 0 ≤ a (2 * i) * b (2 * i + 1) + a (2 * i + 1) * b (2 * i) ∧ a (2 * i) * b (2 * i + 1) + a (2 * i + 1) * b (2 * i) ≤ 9223372036854775807 := by
  have h1 := mul_bd (ha (2 * i)) (hb (2 * i + 1))
  have h2 := mul_bd (ha (2 * i + 1)) (hb (2 * i))
  omega

theorem impl_MulNtt_ev (a b : Nat → Int) (ha : ∀ i, 0 ≤ a i ∧ a i ≤ 3328) (hb : ∀ i, 0 ≤ b i ∧ b i ≤ 3328) : Ev (fun k => impl_MulNtt.f k (vec a) (vec b)) (vec (mulNttV a b)) := by
  have core : Ev (fun k => impl_MulNtt.l0 k (vec a) (vec b) (List.replicate 256 0) 0) (vec (mulNttV a b)) := by
    rw [vec_replicate]
    have key := Ev.up (g := fun i k => impl_MulNtt.l0 k (vec a) (vec b) (vec fun n => if n < 2 * i then mulNttV a b n else 0) (i : Int)) (r := vec (mulNttV a b)) 128 ?_ ?_ 0 (by omega)
    · have e : (vec fun _ => (0 : Int)) = vec fun n => if n < 2 * 0 then mulNttV a b n else 0 := vec_congr fun n _ => by rw [if_neg (by omega)]
      rw [e]; exact key
    · intro i hi h
      obtain ⟨K1, h1⟩ := impl_Turn7_ev i hi 
      obtain ⟨K2, h2⟩ := impl_PowQ_ev 17 (by decide) (2 * t7s i 7 + 1) (pow17_ok i)
      obtain ⟨K3, h3⟩ := h
      refine ⟨K1 + K2 + K3 + 1, fun k hk => ?_⟩
      obtain ⟨m, rfl⟩ : ∃ m, k = m + 1 := ⟨k - 1, by omega⟩
      have e1 : impl_Turn7.f m (i : Int) = some ((t7s i 7 : Nat) : Int) := h1 m (by omega)
      have e2 : impl_PowQ.f m 17 ((2 * t7s i 7 + 1 : Nat) : Int) = some (pw 17 (2 * t7s i 7 + 1)) := h2 m (by omega)
      have e3 := h3 m (by omega)
      have c0 : 2 * i < 256 := by omega
      have c1 : 2 * i + 1 < 256 := by omega
      have b0 : i ≤ 100000 := by omega
      have b1 : 2 * i < 9223372036854775807 := by omega
      have b2 : i < 9223372036854775807 := by omega
      have be := mnE_bd a b ha hb i
      have bo := mnO_bd a b ha hb i
      have bem : -9223372036854775808 ≤ a (2 * i) * b (2 * i) + a (2 * i + 1) * b (2 * i + 1) % 3329 * gam i := Int.le_trans (by decide) be.1
      have bom : -9223372036854775808 ≤ a (2 * i) * b (2 * i + 1) + a (2 * i + 1) * b (2 * i) := Int.le_trans (by decide) bo.1
      have ee : (vec fun n => if n = 2 * i + 1 then mnO a b i else if n = 2 * i then mnE a b i else if n < 2 * i then mulNttV a b n else 0) = vec fun n => if n < 2 * (i + 1) then mulNttV a b n else 0 := by
        refine vec_congr fun n _ => ?_
        by_cases h1 : n = 2 * i + 1
        · subst h1; rw [if_pos rfl, if_pos (by omega), mulNttV_o]
        · rw [if_neg h1]
          by_cases h2 : n = 2 * i
          · subst h2; rw [if_pos rfl, if_pos (by omega), mulNttV_e]
          · rw [if_neg h2]
            by_cases h3 : n < 2 * i
            · rw [if_pos h3, if_pos (by omega)]
            · rw [if_neg h3, if_neg (by omega)]
      clear h1 h2 h3 hk be
      simp only [impl_MulNtt.l0]
      rw [if_pos (show (i : Int) < 128 from Int.ofNat_lt.mpr hi), e1, Option.bind_some, turn2, e2, Option.bind_some, wdbl i b0, w64s (2 * i) b1, if_pos (Int.natCast_nonneg _), vec_length, vec_length, vec_length, if_pos (Int.ofNat_lt.mpr c0), if_pos (Int.natCast_nonneg _), if_pos (Int.ofNat_lt.mpr c1), if_pos (Int.ofNat_lt.mpr c0), if_pos (Int.ofNat_lt.mpr c1),
        vec_rd _ _ c0, vec_rd _ _ c0, vec_rd _ _ c1, vec_rd _ _ c1]
      rw [show pw 17 (2 * t7s i 7 + 1) = gam i from rfl, mnE_w a b ha hb i, mnO_w a b ha hb i, modQ_eq _ bem (mnE_bd a b ha hb i).2, Option.bind_some, if_pos (Int.ofNat_lt.mpr c0), modQ_eq _ bom bo.2, Option.bind_some, if_pos (Int.ofNat_lt.mpr c1), Int.toNat_natCast, Int.toNat_natCast, vec_set, vec_set, w64s i b2]
      rw [show (a (2 * i) * b (2 * i) + a (2 * i + 1) * b (2 * i + 1) % 3329 * gam i) % 3329 = mnE a b i from rfl, show (a (2 * i) * b (2 * i + 1) + a (2 * i + 1) * b (2 * i)) % 3329 = mnO a b i from rfl, ee]
      exact e3
    · refine Ev.step (f := fun _ => some (vec fun n => if n < 2 * 128 then mulNttV a b n else 0)) (fun k => ?_) ?_
      · simp only [impl_MulNtt.l0]
        rw [if_neg (by decide)]
      · rw [vec_congr (g := mulNttV a b) fun n hn => if_pos hn]; exact Ev.now _
  unfold impl_MulNtt.f
  have oka := vec_ok (f := a) fun i _ => ha i
  have okb := vec_ok (f := b) fun i _ => hb i
  have la := vec_length a
  have lb := vec_length b
  refine Ev.bind (oka ▸ impl_PolyOk_ev (vec a) (by omega)) (Ev.pos rfl (Ev.bind (okb ▸ impl_PolyOk_ev (vec b) (by omega)) ?_))
  refine Ev.step (fun k => ?_) core
  simp only [impl_MulNtt.j0]
  rw [if_neg (by decide), if_pos (by decide)]

theorem spec_MulNtt_ev (a b : Nat → Int) (ha : ∀ i, 0 ≤ a i ∧ a i ≤ 3328) (hb : ∀ i, 0 ≤ b i ∧ b i ≤ 3328) : Ev (fun k => spec_MulNtt.f k (vec a) (vec b)) (vec (mulNttV a b)) := by
  have core : Ev (fun k => spec_MulNtt.l0 k (vec a) (vec b) [] 0) (vec (mulNttV a b)) := by
    refine Ev.up (g := fun i k => spec_MulNtt.l0 k (vec a) (vec b) ((vec (mulNttV a b)).take (2 * i)) (i : Int)) (r := vec (mulNttV a b)) 128 ?_ ?_ 0 (by omega)
    · intro i hi h
      obtain ⟨K1, h1⟩ := spec_Turn7_ev i hi 
      obtain ⟨K2, h2⟩ := spec_PowQ_ev 17 (by decide) (2 * t7s i 7 + 1) (pow17_ok i)
      obtain ⟨K3, h3⟩ := h
      refine ⟨K1 + K2 + K3 + 1, fun k hk => ?_⟩
      obtain ⟨m, rfl⟩ : ∃ m, k = m + 1 := ⟨k - 1, by omega⟩
      have e1 : spec_Turn7.f m (i : Int) = some ((t7s i 7 : Nat) : Int) := h1 m (by omega)
      have e2 : spec_PowQ.f m 17 ((2 * t7s i 7 + 1 : Nat) : Int) = some (pw 17 (2 * t7s i 7 + 1)) := h2 m (by omega)
      have e3 := h3 m (by omega)
      have c0 : 2 * i < 256 := by omega
      have c1 : 2 * i + 1 < 256 := by omega
      have b0 : i ≤ 100000 := by omega
      have b1 : 2 * i < 9223372036854775807 := by omega
      have b2 : i < 9223372036854775807 := by omega
      have be := mnE_bd a b ha hb i
      have bo := mnO_bd a b ha hb i
      have ln : (List.take (2 * i) (vec (mulNttV a b))).length + [mnE a b i, mnO a b i].length < 17592186044416 := by show _ + 2 < _; rw [List.length_take, vec_length]; omega
      have ee : List.take (2 * i) (vec (mulNttV a b)) ++ [mnE a b i, mnO a b i] = List.take (2 * (i + 1)) (vec (mulNttV a b)) := by
        have t1 := take_snoc (vec (mulNttV a b)) (2 * i) (by rw [vec_length]; exact c0)
        have t2 := take_snoc (vec (mulNttV a b)) (2 * i + 1) (by rw [vec_length]; exact c1)
        rw [vec_get, mulNttV_e] at t1
        rw [vec_get, mulNttV_o] at t2
        rw [show 2 * (i + 1) = 2 * i + 1 + 1 by omega, ← t2, ← t1, List.append_assoc]
        rfl
      clear h1 h2 h3 hk
      simp only [spec_MulNtt.l0]
      rw [if_pos (show (i : Int) < 128 from Int.ofNat_lt.mpr hi), e1, Option.bind_some, turn2, e2, Option.bind_some, wdbl i b0, w64s (2 * i) b1, if_pos (Int.natCast_nonneg _), vec_length, vec_length, if_pos (Int.ofNat_lt.mpr c1), if_pos (Int.ofNat_lt.mpr c1), if_pos (Int.natCast_nonneg _), if_pos (Int.ofNat_lt.mpr c0), if_pos (Int.ofNat_lt.mpr c0),
        vec_rd _ _ c0, vec_rd _ _ c0, vec_rd _ _ c1, vec_rd _ _ c1, Option.bind_some]
      rw [show pw 17 (2 * t7s i 7 + 1) = gam i from rfl, mnE_w a b ha hb i, mnO_w a b ha hb i, Int.tmod_eq_emod_of_nonneg be.1, Int.tmod_eq_emod_of_nonneg bo.1, w64s i b2]
      rw [show (a (2 * i) * b (2 * i) + a (2 * i + 1) * b (2 * i + 1) % 3329 * gam i) % 3329 = mnE a b i from rfl, show (a (2 * i) * b (2 * i + 1) + a (2 * i + 1) * b (2 * i)) % 3329 = mnO a b i from rfl]
      rw [if_pos ln, ee]
      exact e3
    · refine Ev.step (f := fun _ => some (List.take (2 * 128) (vec (mulNttV a b)))) (fun k => ?_) ?_
      · simp only [spec_MulNtt.l0]
        rw [if_neg (by decide)]
      · rw [List.take_of_length_le (by rw [vec_length]; decide)]; exact Ev.now _
  unfold spec_MulNtt.f
  have oka := vec_ok (f := a) fun i _ => ha i
  have okb := vec_ok (f := b) fun i _ => hb i
  simp only [Option.bind_some]
  refine Ev.bind (oka ▸ spec_PolyOk_ev (vec a)) (Ev.pos rfl (Ev.bind (okb ▸ spec_PolyOk_ev (vec b)) ?_))
  refine Ev.step (fun k => ?_) core
  simp only [spec_MulNtt.j0]
  rw [if_neg (by decide)]

/-! a layer, place by place -/
end Go.Proofs.Ytnckhligcdieaaa.Pure
namespace Go.Proofs.Ytnckhligcdieaaa.Pure
open Go.RowKit Go.Proofs.YtnckhligcdieaaaW.PrintWords Go.Proofs.YtnckhligcdieaaaW.PrintLast Go.Proofs.YtnckhligcdieaaaW.PrintMore Go.Proofs.Ytnckhligcdieaaa.P

def two384 (s : ByteArray) : List (List Int) × Bool :=
  if (polyFromR (s.extract 0 384)).2 = true then
    if (polyFromR (s.extract 384 768)).2 = true then ([(polyFromR (s.extract 0 384)).1, (polyFromR (s.extract 384 768)).1], true) else ([], false)
  else ([], false)
theorem spec_l13Polys_ev (s : ByteArray) (hs : 768 ≤ s.size) : Ev (fun k => spec_l13Polys.f k s) (two384 s) := by
  unfold spec_l13Polys.f two384
  have e0 : wrap64 ((0 : Int) * 384) = 0 := by rw [w64 (by omega) (by omega)]; rfl
  have e2 : wrap64 ((0 : Int) + 1) = 1 := by rw [w64 (by omega) (by omega)]; rfl
  have e3 : wrap64 ((1 : Int) * 384) = 384 := by rw [w64 (by omega) (by omega)]; rfl
  have e5 : wrap64 ((1 : Int) + 1) = 2 := by rw [w64 (by omega) (by omega)]; rfl
  have e4 : wrap64 ((2 : Int) * 384) = 768 := by rw [w64 (by omega) (by omega)]; rfl
  refine Ev.step (f := fun k => (spec_PolyFrom.f k (s.extract 0 384)).bind fun bt => (if bt.2 = true then (spec_l13Polys.l0 k s ([] ++ [bt.1]) 1) else (some ([], false)))) (fun k => ?_) ?_
  · simp only [spec_l13Polys.l0, e0, e2, e3]
    rw [if_pos (by omega), if_pos (by omega), if_pos (by omega), if_pos (by omega)]
    simp only [if_pos (show (([] : List (List Int)).length < 5864062014805) from (by rw [List.length_nil]; omega))]
    rfl
  refine Ev.bind (spec_PolyFrom_ev _) ?_
  by_cases h0 : (polyFromR (s.extract 0 384)).2 = true
  · refine Ev.pos h0 ?_
    rw [if_pos h0]
    refine Ev.step (f := fun k => (spec_PolyFrom.f k (s.extract 384 768)).bind fun bt => (if bt.2 = true then (spec_l13Polys.l0 k s ([(polyFromR (s.extract 0 384)).1] ++ [bt.1]) 2) else (some ([], false)))) (fun k => ?_) ?_
    · simp only [spec_l13Polys.l0, e3, e4, e5]
      rw [if_pos (by omega), if_pos (by omega), if_pos (by omega), if_pos (by omega)]
      rfl
    refine Ev.bind (spec_PolyFrom_ev _) ?_
    by_cases h1 : (polyFromR (s.extract 384 768)).2 = true
    · refine Ev.pos h1 ?_
      rw [if_pos h1]
      refine Ev.step (f := fun k => some ([(polyFromR (s.extract 0 384)).1] ++ [(polyFromR (s.extract 384 768)).1], true)) (fun k => ?_) (Ev.now _)
      simp only [spec_l13Polys.l0]
      rw [if_neg (by omega)]
    · rw [if_neg h1]; exact Ev.neg h1 (Ev.now _)
  · rw [if_neg h0]; exact Ev.neg h0 (Ev.now _)
theorem impl_polysOf_ev (s : ByteArray) (hs : 768 ≤ s.size) : Ev (fun k => impl_polysOf.f k s) (two384 s) := by
  unfold impl_polysOf.f two384
  have e0 : wrap64 ((0 : Int) * 384) = 0 := by rw [w64 (by omega) (by omega)]; rfl
  have e2 : wrap64 ((0 : Int) + 1) = 1 := by rw [w64 (by omega) (by omega)]; rfl
  have e3 : wrap64 ((1 : Int) * 384) = 384 := by rw [w64 (by omega) (by omega)]; rfl
  have e5 : wrap64 ((1 : Int) + 1) = 2 := by rw [w64 (by omega) (by omega)]; rfl
  have e4 : wrap64 ((2 : Int) * 384) = 768 := by rw [w64 (by omega) (by omega)]; rfl
  refine Ev.step (f := fun k => (impl_PolyFrom.f k (s.extract 0 384)).bind fun bt => (if bt.2 = true then (impl_polysOf.l0 k s ([] ++ [bt.1]) 1) else (some ([], false)))) (fun k => ?_) ?_
  · simp only [impl_polysOf.l0, e0, e2, e3]
    rw [if_pos (by omega), if_pos (by omega), if_pos (by omega), if_pos (by omega)]
    simp only [if_pos (show (([] : List (List Int)).length < 5864062014805) from (by rw [List.length_nil]; omega))]
    rfl
  refine Ev.bind (impl_PolyFrom_ev _) ?_
  by_cases h0 : (polyFromR (s.extract 0 384)).2 = true
  · refine Ev.pos h0 ?_
    rw [if_pos h0]
    refine Ev.step (f := fun k => (impl_PolyFrom.f k (s.extract 384 768)).bind fun bt => (if bt.2 = true then (impl_polysOf.l0 k s ([(polyFromR (s.extract 0 384)).1] ++ [bt.1]) 2) else (some ([], false)))) (fun k => ?_) ?_
    · simp only [impl_polysOf.l0, e3, e4, e5]
      rw [if_pos (by omega), if_pos (by omega), if_pos (by omega), if_pos (by omega)]
      rfl
    refine Ev.bind (impl_PolyFrom_ev _) ?_
    by_cases h1 : (polyFromR (s.extract 384 768)).2 = true
    · refine Ev.pos h1 ?_
      rw [if_pos h1]
      refine Ev.step (f := fun k => some ([(polyFromR (s.extract 0 384)).1] ++ [(polyFromR (s.extract 384 768)).1], true)) (fun k => ?_) (Ev.now _)
      simp only [impl_polysOf.l0]
      rw [if_neg (by omega)]
    · rw [if_neg h1]; exact Ev.neg h1 (Ev.now _)
  · rw [if_neg h0]; exact Ev.neg h0 (Ev.now _)
def publicOkV (s : ByteArray) : Bool := if (s.size : Int) = 800 then (two384 s).2 else false
theorem spec_PublicOk_ev (s : ByteArray) : Ev (fun k => spec_PublicOk.f k s) (publicOkV s) := by
  unfold spec_PublicOk.f publicOkV
  by_cases h : (s.size : Int) = 800
  · rw [if_pos h]; exact Ev.pos h (Ev.bind (spec_l13Polys_ev s (by omega)) (Ev.now _))
  · rw [if_neg h]; exact Ev.neg h (Ev.now _)
theorem impl_PublicOk_ev (s : ByteArray) : Ev (fun k => impl_PublicOk.f k s) (publicOkV s) := by
  unfold impl_PublicOk.f publicOkV
  by_cases h : (s.size : Int) = 800
  · rw [if_pos h]; exact Ev.pos h (Ev.bind (impl_polysOf_ev s (by omega)) (Ev.now _))
  · rw [if_neg h]; exact Ev.neg h (Ev.now _)
end Go.Proofs.Ytnckhligcdieaaa.Pure
namespace Go.Proofs.Ytnckhligcdieaaa.Pure
open Go.RowKit Go.Proofs.YtnckhligcdieaaaW.PrintWords Go.Proofs.YtnckhligcdieaaaW.PrintLast Go.Proofs.YtnckhligcdieaaaW.PrintMore Go.Proofs.Ytnckhligcdieaaa.P

theorem not_ok {l : List Int} (h : ¬ polyOk l = true) : polyOk l = false := by simpa using h
theorem ntt_any (l : List Int) (hl : l.length ≤ 35184372088832) : ∃ R : List Int, R.length ≤ 256 ∧ Ev (fun k => spec_Ntt.f k l) R ∧ Ev (fun k => impl_Ntt.f k l) R := by
  by_cases h : polyOk l = true
  · obtain ⟨f, rfl, hf⟩ := poly_vec' h
    exact ⟨vec (nttV f), by rw [vec_length]; omega, spec_Ntt_ev f hf, impl_Ntt_ev f hf⟩
  · refine ⟨[], by simp, ?_, ?_⟩
    · unfold spec_Ntt.f
      exact Ev.bind (spec_PolyOk_ev l) (Ev.neg h (Ev.now _))
    · unfold impl_Ntt.f
      exact Ev.bind (impl_PolyOk_ev l hl) (Ev.neg h (Ev.now _))
theorem inv_any (l : List Int) (hl : l.length ≤ 35184372088832) : ∃ R : List Int, R.length ≤ 256 ∧ Ev (fun k => spec_InvNtt.f k l) R ∧ Ev (fun k => impl_InvNtt.f k l) R := by
  by_cases h : polyOk l = true
  · obtain ⟨f, rfl, hf⟩ := poly_vec' h
    exact ⟨vec (invV f), by rw [vec_length]; omega, spec_InvNtt_ev f hf, impl_InvNtt_ev f hf⟩
  · refine ⟨[], by simp, ?_, ?_⟩
    · unfold spec_InvNtt.f
      exact Ev.bind (spec_PolyOk_ev l) (Ev.neg h (Ev.now _))
    · unfold impl_InvNtt.f
      exact Ev.bind (impl_PolyOk_ev l hl) (Ev.neg h (Ev.now _))
theorem mul_any (l u : List Int) (hl : l.length ≤ 35184372088832) (hu : u.length ≤ 35184372088832) : ∃ R : List Int, R.length ≤ 256 ∧ Ev (fun k => spec_MulNtt.f k l u) R ∧ Ev (fun k => impl_MulNtt.f k l u) R := by
  by_cases h : polyOk l = true
  · by_cases h2 : polyOk u = true
    · obtain ⟨f, rfl, hf⟩ := poly_vec' h
      obtain ⟨g, rfl, hg⟩ := poly_vec' h2
      exact ⟨vec (mulNttV f g), by rw [vec_length]; omega, spec_MulNtt_ev f g hf hg, impl_MulNtt_ev f g hf hg⟩
    · refine ⟨[], by simp, ?_, ?_⟩
      · unfold spec_MulNtt.f
        simp only [Option.bind_some]
        refine Ev.bind (spec_PolyOk_ev l) (Ev.pos h (Ev.bind (spec_PolyOk_ev u) ?_))
        refine Ev.step (f := fun _ => some []) (fun k => ?_) (Ev.now _)
        simp only [spec_MulNtt.j0]
        rw [if_pos (by rw [not_ok h2]; rfl)]
      · unfold impl_MulNtt.f
        refine Ev.bind (impl_PolyOk_ev l hl) (Ev.pos h (Ev.bind (impl_PolyOk_ev u hu) ?_))
        refine Ev.step (f := fun _ => some []) (fun k => ?_) (Ev.now _)
        simp only [impl_MulNtt.j0]
        rw [if_pos (by rw [not_ok h2]; rfl)]
  · refine ⟨[], by simp, ?_, ?_⟩
    · unfold spec_MulNtt.f
      simp only [Option.bind_some]
      refine Ev.bind (spec_PolyOk_ev l) (Ev.neg h ?_)
      refine Ev.step (f := fun _ => some []) (fun k => ?_) (Ev.now _)
      simp only [spec_MulNtt.j0]
      rw [if_pos trivial]
    · unfold impl_MulNtt.f
      refine Ev.bind (impl_PolyOk_ev l hl) (Ev.neg h ?_)
      refine Ev.step (f := fun _ => some []) (fun k => ?_) (Ev.now _)
      simp only [impl_MulNtt.j0]
      rw [if_pos trivial]
theorem spec_PolyAdd_ev (a b : Nat → Int) (ha : ∀ i, 0 ≤ a i ∧ a i ≤ 3328) (hb : ∀ i, 0 ≤ b i ∧ b i ≤ 3328) : Ev (fun k => spec_PolyAdd.f k (vec a) (vec b)) (vec fun i => (a i + b i) % 3329) := by
  have oka : Ev (fun k => spec_PolyOk.f k (vec a)) true := vec_ok (f := a) (fun i _ => ha i) ▸ spec_PolyOk_ev (vec a)
  have okb : Ev (fun k => spec_PolyOk.f k (vec b)) true := vec_ok (f := b) (fun i _ => hb i) ▸ spec_PolyOk_ev (vec b)
  unfold spec_PolyAdd.f
  refine Ev.up (g := fun i k => spec_PolyAdd.l0 k (vec a) (vec b) ((vec fun i => (a i + b i) % 3329).take i) (i : Int)) (r := vec fun i => (a i + b i) % 3329) 256 ?_ ?_ 0 (by omega)
  · intro i hi h
    obtain ⟨K1, h1⟩ := oka
    obtain ⟨K2, h2⟩ := okb
    obtain ⟨K3, h3⟩ := h
    refine ⟨K1 + K2 + K3 + 1, fun k hk => ?_⟩
    obtain ⟨m, rfl⟩ : ∃ m, k = m + 1 := ⟨k - 1, by omega⟩
    have e1 : spec_PolyOk.f m (vec a) = some true := h1 m (by omega)
    have e2 : spec_PolyOk.f m (vec b) = some true := h2 m (by omega)
    have e3 := h3 m (by omega)
    have ln : (List.take i (vec fun i => (a i + b i) % 3329)).length < 17592186044416 := by rw [List.length_take, vec_length]; omega
    have t1 := take_snoc (vec fun i => (a i + b i) % 3329) i (by rw [vec_length]; exact hi)
    rw [vec_get] at t1
    have hs : 0 ≤ a i + b i ∧ a i + b i ≤ 6656 := by have := ha i; have := hb i; omega
    have em : Int.tmod (wrap64 (a i + b i)) 3329 = (a i + b i) % 3329 := by
      rw [w64 (by omega) (by omega), Int.tmod_eq_emod_of_nonneg hs.1]
    simp only [spec_PolyAdd.l0]
    rw [if_pos (show (i : Int) < 256 from Int.ofNat_lt.mpr hi), e1, Option.bind_some, if_pos rfl, e2, Option.bind_some, if_pos rfl, if_pos (Int.natCast_nonneg _), vec_length, vec_length, if_pos (Int.ofNat_lt.mpr hi), if_pos (Int.ofNat_lt.mpr hi), if_pos ln, vec_rd a i hi, vec_rd b i hi, em, t1, w64s i (Nat.lt_trans hi (by decide))]
    exact e3
  · refine Ev.step (f := fun _ => some (List.take 256 (vec fun i => (a i + b i) % 3329))) (fun k => ?_) ?_
    · simp only [spec_PolyAdd.l0]
      rw [if_neg (by decide)]
    · rw [List.take_of_length_le (by rw [vec_length]; decide)]; exact Ev.now _
theorem add_any (l u : List Int) (hl : l.length ≤ 35184372088832) (hu : u.length ≤ 35184372088832) : ∃ R : List Int, R.length ≤ 256 ∧ Ev (fun k => spec_PolyAdd.f k l u) R ∧ Ev (fun k => impl_PolyAdd.f k l u) R := by
  by_cases h : polyOk l = true
  · by_cases h2 : polyOk u = true
    · obtain ⟨f, rfl, hf⟩ := poly_vec' h
      obtain ⟨g, rfl, hg⟩ := poly_vec' h2
      exact ⟨_, by rw [vec_length]; omega, spec_PolyAdd_ev f g hf hg, impl_PolyAdd_ev f g hf hg⟩
    · refine ⟨[], by simp, ?_, ?_⟩
      · unfold spec_PolyAdd.f
        refine Ev.step (f := fun k => (spec_PolyOk.f k l).bind fun t => if t = true then ((spec_PolyOk.f k u).bind fun t2 => if t2 = true then none else some []) else some []) (fun k => ?_) ?_
        · simp only [spec_PolyAdd.l0]
          rw [if_pos (by decide)]
          have : ∀ t2 : Bool, spec_PolyOk.f k u = some t2 → t2 = false := fun t2 e => by
            cases t2 with
            | false => rfl
            | true =>
              exfalso
              obtain ⟨K, hK⟩ := spec_PolyOk_ev u
              have e1 := at_rounds (g := fun k => spec_PolyOk.f k u) (fun k => spec_PolyOk.mono u k) (Nat.le_max_left k K) e
              rw [show spec_PolyOk.f (max k K) u = some (polyOk u) from hK (max k K) (Nat.le_max_right k K), not_ok h2] at e1
              exact absurd e1 (by decide)
          cases spec_PolyOk.f k l with
          | none => rfl
          | some t =>
            simp only [Option.bind_some]
            cases t with
            | false => rfl
            | true =>
              rw [if_pos rfl, if_pos rfl]
              cases e : spec_PolyOk.f k u with
              | none => rfl
              | some t2 =>
                have := this t2 e
                subst this
                simp
        · exact Ev.bind (spec_PolyOk_ev l) (Ev.pos h (Ev.bind (spec_PolyOk_ev u) (Ev.neg h2 (Ev.now _))))
      · unfold impl_PolyAdd.f
        refine Ev.bind (a := []) ?_ (Ev.now _)
        unfold impl_each_PolyAdd_1.f
        refine Ev.bind (impl_PolyOk_ev l hl) (Ev.pos h (Ev.bind (impl_PolyOk_ev u hu) ?_))
        refine Ev.step (f := fun _ => some []) (fun k => ?_) (Ev.now _)
        simp only [impl_each_PolyAdd_1.j0]
        rw [if_pos (by rw [not_ok h2]; rfl)]
  · refine ⟨[], by simp, ?_, ?_⟩
    · unfold spec_PolyAdd.f
      refine Ev.step (f := fun k => (spec_PolyOk.f k l).bind fun t => if t = true then none else some []) (fun k => ?_) ?_
      · simp only [spec_PolyAdd.l0]
        rw [if_pos (by decide)]
        have : ∀ t2 : Bool, spec_PolyOk.f k l = some t2 → t2 = false := fun t2 e => by
          cases t2 with
          | false => rfl
          | true =>
            exfalso
            obtain ⟨K, hK⟩ := spec_PolyOk_ev l
            have e1 := at_rounds (g := fun k => spec_PolyOk.f k l) (fun k => spec_PolyOk.mono l k) (Nat.le_max_left k K) e
            rw [show spec_PolyOk.f (max k K) l = some (polyOk l) from hK (max k K) (Nat.le_max_right k K), not_ok h] at e1
            exact absurd e1 (by decide)
        cases e : spec_PolyOk.f k l with
        | none => rfl
        | some t =>
          have := this t e
          subst this
          simp
      · exact Ev.bind (spec_PolyOk_ev l) (Ev.neg h (Ev.now _))
    · unfold impl_PolyAdd.f
      refine Ev.bind (a := []) ?_ (Ev.now _)
      unfold impl_each_PolyAdd_1.f
      refine Ev.bind (impl_PolyOk_ev l hl) (Ev.neg h ?_)
      refine Ev.step (f := fun _ => some []) (fun k => ?_) (Ev.now _)
      simp only [impl_each_PolyAdd_1.j0]
      rw [if_pos trivial]
/-- Sums of products of two rows of two. -/
theorem sum_any (a0 a1 b0 b1 : List Int) (h0 : a0.length ≤ 35184372088832) (h1 : a1.length ≤ 35184372088832) (h2 : b0.length ≤ 35184372088832) (h3 : b1.length ≤ 35184372088832) :
    ∃ R : List Int, R.length ≤ 256 ∧ Ev (fun k => spec_l13Sum.f k [a0, a1] [b0, b1]) R ∧ Ev (fun k => impl_dot.f k [a0, a1] [b0, b1]) R := by
  obtain ⟨p, hp, sp, ip⟩ := mul_any a0 b0 h0 h2
  obtain ⟨q, hq, sq, iq⟩ := mul_any a1 b1 h1 h3
  obtain ⟨u, hu, su, iu⟩ := add_any (List.replicate 256 0) p (by rw [List.length_replicate]; decide) (by omega)
  obtain ⟨v, hv, sv, iv⟩ := add_any u q (by omega) (by omega)
  have w1 : wrap64 (0 + 1) = 1 := by rw [w64 (by decide) (by decide)]; rfl
  have w2 : wrap64 (1 + 1) = 2 := by rw [w64 (by decide) (by decide)]; rfl
  have la : (([a0, a1] : List (List Int)).length : Int) = 2 := rfl
  have lb : (([b0, b1] : List (List Int)).length : Int) = 2 := rfl
  refine ⟨v, hv, ?_, ?_⟩
  · unfold spec_l13Sum.f
    refine Ev.pos (by decide) ?_
    refine Ev.step (f := fun k => (spec_MulNtt.f k a0 b0).bind fun t => (spec_PolyAdd.f k (List.replicate 256 0) t).bind fun t2 => spec_l13Sum.l0 k [a0, a1] [b0, b1] t2 1) (fun k => ?_) (Ev.bind sp (Ev.bind su ?_))
    · simp only [spec_l13Sum.l0]
      rw [la, lb, if_pos (by decide), if_pos (by decide), if_pos (by decide), w1]
      rfl
    refine Ev.step (f := fun k => (spec_MulNtt.f k a1 b1).bind fun t => (spec_PolyAdd.f k u t).bind fun t2 => spec_l13Sum.l0 k [a0, a1] [b0, b1] t2 2) (fun k => ?_) (Ev.bind sq (Ev.bind sv ?_))
    · simp only [spec_l13Sum.l0]
      rw [la, lb, if_pos (by decide), if_pos (by decide), if_pos (by decide), w2]
      rfl
    refine Ev.step (f := fun _ => some v) (fun k => ?_) (Ev.now _)
    simp only [spec_l13Sum.l0]
    rw [la, if_neg (by decide)]
  · unfold impl_dot.f
    refine Ev.pos (by decide) ?_
    refine Ev.step (f := fun k => (impl_MulNtt.f k a0 b0).bind fun t => (impl_PolyAdd.f k (List.replicate 256 0) t).bind fun t2 => impl_dot.l0 k [a0, a1] [b0, b1] t2 2 1) (fun k => ?_) (Ev.bind ip (Ev.bind iu ?_))
    · simp only [impl_dot.l0]
      rw [la, lb, if_pos (by decide), if_pos (by decide), if_pos (by decide), if_pos (by decide), w1]
      rfl
    refine Ev.step (f := fun k => (impl_MulNtt.f k a1 b1).bind fun t => (impl_PolyAdd.f k u t).bind fun t2 => impl_dot.l0 k [a0, a1] [b0, b1] t2 2 2) (fun k => ?_) (Ev.bind iq (Ev.bind iv ?_))
    · simp only [impl_dot.l0]
      rw [la, lb, if_pos (by decide), if_pos (by decide), if_pos (by decide), if_pos (by decide), w2]
      rfl
    refine Ev.step (f := fun _ => some v) (fun k => ?_) (Ev.now _)
    simp only [impl_dot.l0]
    rw [if_neg (by decide)]

def bitV (m : ByteArray) (i : Nat) : Int := stretchV (((bt m ((i / 8 : Nat) : Int)).toNat / 2 ^ (i % 8) % 2 : Nat) : Int) 1
def bitsV (m : ByteArray) : List Int := (List.range 256).map (bitV m)
theorem bitsV_len (m : ByteArray) : (bitsV m).length = 256 := by simp [bitsV]
theorem bitsV_get (m : ByteArray) (i : Nat) (h : i < (bitsV m).length) : (bitsV m)[i] = bitV m i := by simp [bitsV]
theorem bt_nat (m : ByteArray) (i : Int) : bt m i = (((bt m i).toNat : Nat) : Int) ∧ (bt m i).toNat < 256 := by
  have := bt_range m i
  omega
theorem w8 (i : Nat) (h : i < 256) : wrap64 (Int.tdiv (i : Int) 8) = ((i / 8 : Nat) : Int) := by
  rw [Int.tdiv_eq_ediv_of_nonneg (by omega), w64 (by omega) (by omega)]; rfl
theorem m8 (i : Nat) : Int.tmod (i : Int) 8 = ((i % 8 : Nat) : Int) := by
  rw [Int.tmod_eq_emod_of_nonneg (by omega)]; rfl
theorem spec_l13Bits_ev (m : ByteArray) (hm : m.size = 32) : Ev (fun k => spec_l13Bits.f k m) (bitsV m) := by
  unfold spec_l13Bits.f
  refine Ev.up (g := fun i k => spec_l13Bits.l0 k m ((bitsV m).take i) (i : Int)) (r := bitsV m) 256 ?_ ?_ 0 (by omega)
  · intro i hi h
    have hb := bt_nat m ((i / 8 : Nat) : Int)
    have c1 : i / 8 < m.size := by omega
    have ww : wrap64 (bt m ((i / 8 : Nat) : Int)) = (((bt m ((i / 8 : Nat) : Int)).toNat : Nat) : Int) := by
      rw [w64 (by omega) (by omega)]; exact hb.1
    have hlt := hb.2
    have ln : (List.take i (bitsV m)).length < 17592186044416 := by rw [List.length_take, bitsV_len]; omega
    have t1 := take_snoc (bitsV m) i (by rw [bitsV_len]; exact hi)
    rw [bitsV_get] at t1
    refine Ev.step (f := fun k => spec_l13Bits.l1 k m ((bitsV m).take i) (i : Int) (((bt m ((i / 8 : Nat) : Int)).toNat : Nat) : Int) 0) (fun k => ?_) ?_
    · simp only [spec_l13Bits.l0]
      rw [if_pos (show (i : Int) < 256 from Int.ofNat_lt.mpr hi), w8 i hi, if_pos (Int.natCast_nonneg _), if_pos (Int.ofNat_lt.mpr c1), ww]
    · have hbit : bitV m i = stretchV (((bt m ((i / 8 : Nat) : Int)).toNat / 2 ^ (i % 8) % 2 : Nat) : Int) 1 := rfl
      rw [hbit] at t1
      clear hbit ww hb
      generalize (bt m ((i / 8 : Nat) : Int)).toNat = u at t1 hlt ⊢
      have key := Ev.up (g := fun j k => spec_l13Bits.l1 k m ((bitsV m).take i) (i : Int) ((u / 2 ^ j : Nat) : Int) (j : Int)) (r := bitsV m) (i % 8) ?_ ?_ 0 (by omega)
      · simpa using key
      · intro j hj h'
        refine Ev.step (fun k => ?_) h'
        have hle : u / 2 ^ j ≤ u := Nat.div_le_self _ _
        have e2 := half_e (u / 2 ^ j) (by omega)
        have e5 : u / 2 ^ j / 2 = u / 2 ^ (j + 1) := by rw [Nat.div_div_eq_div_mul, Nat.pow_succ]
        simp only [spec_l13Bits.l1]
        rw [m8, if_pos (Int.ofNat_lt.mpr hj), e2, e5, w64s j (by omega)]
      · refine Ev.step (f := fun k => (spec_Stretch.f k ((u / 2 ^ (i % 8) % 2 : Nat) : Int) 1).bind fun t => spec_l13Bits.l0 k m ((bitsV m).take i ++ [t]) ((i + 1 : Nat) : Int)) (fun k => ?_) (Ev.bind (spec_Stretch_ev _ 1) ?_)
        · simp only [spec_l13Bits.l1]
          rw [m8, if_neg (Int.lt_irrefl _), odd_e, w64s i (by omega)]
          simp only [if_pos ln]
        · rw [t1]
          exact h
  · refine Ev.step (f := fun _ => some (bitsV m)) (fun k => ?_) (Ev.now _)
    simp only [spec_l13Bits.l0]
    rw [if_neg (by decide), List.take_of_length_le (by rw [bitsV_len]; decide)]
theorem impl_bitsOf_ev (m : ByteArray) (hm : m.size = 32) : Ev (fun k => impl_bitsOf.f k m) (bitsV m) := by
  unfold impl_bitsOf.f
  refine Ev.pos (by decide) ?_
  simp only [Option.bind_some]
  rw [List.length_replicate]
  have e0 : List.take 0 (bitsV m) ++ List.replicate (256 - 0) (0 : Int) = List.replicate 256 0 := by rw [List.take_zero, List.nil_append]
  suffices key : Ev (fun k => impl_bitsOf.l0 k m (List.take 0 (bitsV m) ++ List.replicate (256 - 0) 0) ((256 : Nat) : Int) ((0 : Nat) : Int)) (bitsV m) by rw [e0] at key; exact key
  refine Ev.up (g := fun i k => impl_bitsOf.l0 k m ((bitsV m).take i ++ List.replicate (256 - i) 0) ((256 : Nat) : Int) (i : Int)) (r := bitsV m) 256 ?_ ?_ 0 (by omega)
  · intro i hi h
    refine Ev.step (fun k => ?_) h
    have hb := bt_nat m ((i / 8 : Nat) : Int)
    have hlt := hb.2
    have c1 : i / 8 < m.size := by omega
    have ew : wrap64 (Go.bits .and .u8 (shr .u8 (bt m ((i / 8 : Nat) : Int)) ((i % 8 : Nat) : Int)) 1) = (((bt m ((i / 8 : Nat) : Int)).toNat / 2 ^ (i % 8) % 2 : Nat) : Int) := by
      rw [hb.1]
      generalize (bt m ((i / 8 : Nat) : Int)).toNat = u at hlt ⊢
      have hle : u / 2 ^ (i % 8) ≤ u := Nat.div_le_self _ _
      have h2 : u / 2 ^ (i % 8) % 2 < 2 := Nat.mod_lt _ (by decide)
      rw [Int.toNat_natCast, shr_nat .u8 u (i % 8) (by simp [IntKind.bits]; omega), u8_and1 _ (by omega)]
      generalize u / 2 ^ (i % 8) % 2 = v at h2 ⊢
      exact w64 (by omega) (by omega)
    have hset := set_fill (bitsV m) 0 i (by rw [bitsV_len]; exact hi)
    rw [bitsV_get] at hset
    simp only [bitsV_len] at hset
    have hlen : (List.take i (bitsV m) ++ List.replicate (256 - i) 0).length = 256 := by rw [List.length_append, List.length_take, bitsV_len, List.length_replicate]; omega
    simp only [impl_bitsOf.l0]
    rw [if_pos (Int.ofNat_lt.mpr hi), w8 i hi, if_pos (Int.natCast_nonneg _), if_pos (Int.ofNat_lt.mpr c1), m8, if_pos (Int.natCast_nonneg _), ew, impl_Stretch_eq, Option.bind_some, if_pos (Int.natCast_nonneg _), hlen, if_pos (Int.ofNat_lt.mpr hi), Int.toNat_natCast, show stretchV (((bt m ((i / 8 : Nat) : Int)).toNat / 2 ^ (i % 8) % 2 : Nat) : Int) 1 = bitV m i from rfl, hset, w64s i (by omega)]
  · refine Ev.step (f := fun _ => some (bitsV m)) (fun k => ?_) (Ev.now _)
    simp only [impl_bitsOf.l0]
    rw [if_neg (by decide), List.take_of_length_le (by rw [bitsV_len]; decide), Nat.sub_self, List.replicate_zero, List.append_nil]

theorem map_snoc (f : Int → Int) (l : List Int) (i : Nat) (h : i < l.length) : (l.take i).map f ++ [f l[i]] = (l.take (i + 1)).map f := by
  rw [← List.take_append_getElem h, List.map_append]; rfl
def sqV (l : List Int) (d : Int) : List Int := l.map fun y => squeezeV y d
theorem sq_fits (l : List Int) (d : Nat) : (sqV l d).all (fitsB d) = true := by
  refine List.all_eq_true.mpr fun x hx => ?_
  obtain ⟨y, _, rfl⟩ := List.mem_map.mp hx
  refine decide_eq_true ?_
  have e : (2 : Int) ^ (d : Int).toNat = 2 ^ d := by rw [Int.toNat_natCast]
  have hp : (1 : Int) ≤ 2 ^ d := by
    have h3 : (1 : Nat) ≤ 2 ^ d := Nat.one_le_two_pow
    have h4 : ((2 ^ d : Nat) : Int) = (2 : Int) ^ d := by simp
    omega
  by_cases h : (0 ≤ y ∧ y ≤ 3328) ∧ 1 ≤ (d : Int) ∧ (d : Int) ≤ 11
  · rw [squeezeV_in h.1 h.2, e]
    have := Int.emod_nonneg ((2 ^ d * y + 1664) / 3329) (show (2 : Int) ^ d ≠ 0 by omega)
    have := Int.emod_lt_of_pos ((2 ^ d * y + 1664) / 3329) (show (0 : Int) < 2 ^ d by omega)
    omega
  · rw [squeezeV_out h]
    omega
theorem spec_l13Squeezed_ev (l : List Int) (d : Nat) (h1 : 1 ≤ d) (h2 : d ≤ 11) (hl : l.length ≤ 1000) : Ev (fun k => spec_l13Squeezed.f k l (d : Int)) (packV d (sqV l d)) := by
  unfold spec_l13Squeezed.f
  refine Ev.up (g := fun i k => spec_l13Squeezed.l0 k l (d : Int) ((l.take i).map fun y => squeezeV y d) (i : Int)) (r := packV d (sqV l d)) l.length ?_ ?_ 0 (by omega)
  · intro i hi h
    have ln : ((l.take i).map fun y => squeezeV y d).length < 17592186044416 := by rw [List.length_map, List.length_take]; omega
    refine Ev.step (f := fun k => (spec_Squeeze.f k l[i] d).bind fun t => spec_l13Squeezed.l0 k l (d : Int) (((l.take i).map fun y => squeezeV y d) ++ [t]) ((i + 1 : Nat) : Int)) (fun k => ?_) (Ev.bind (spec_Squeeze_ev l[i] d) ?_)
    · simp only [spec_l13Squeezed.l0]
      rw [if_pos (Int.ofNat_lt.mpr hi), if_pos (Int.natCast_nonneg _), rd_get l i hi, w64s i (by omega)]
      simp only [if_pos ln]
    · rw [map_snoc (fun y => squeezeV y d) l i hi]
      exact h
  · refine Ev.step (f := fun k => (spec_Pack.f k (sqV l d) (d : Int)).bind fun bt => some bt.1) (fun k => ?_) ?_
    · simp only [spec_l13Squeezed.l0]
      rw [if_neg (by omega), List.take_of_length_le (by omega)]
      rfl
    · have e : packR (sqV l d) (d : Int) = (packV d (sqV l d), true) := by
        unfold packR
        rw [Int.toNat_natCast, if_pos ⟨by omega, sq_fits l d⟩]
      have hp := spec_Pack_ev (sqV l d) (d : Int) (by unfold sqV; rw [List.length_map]; omega)
      rw [e] at hp
      exact Ev.bind hp (Ev.now _)
theorem impl_squeezed_ev (l : List Int) (d : Nat) (hl : l.length ≤ 1000) : Ev (fun k => impl_squeezed.f k l (d : Int)) (sqV l d) := by
  unfold impl_squeezed.f
  refine Ev.up (g := fun i k => impl_squeezed.l0 k (d : Int) ((l.take i).map fun y => squeezeV y d) l (l.length : Int) (i : Int)) (r := sqV l d) l.length ?_ ?_ 0 (by omega)
  · intro i hi h
    refine Ev.step (fun k => ?_) h
    have ln : ((l.take i).map fun y => squeezeV y d).length < 17592186044416 := by rw [List.length_map, List.length_take]; omega
    simp only [impl_squeezed.l0]
    rw [if_pos (Int.ofNat_lt.mpr hi), if_pos (Int.natCast_nonneg _), if_pos (Int.ofNat_lt.mpr hi), rd_get l i hi, impl_Squeeze_eq, Option.bind_some, if_pos ln, map_snoc (fun y => squeezeV y d) l i hi, w64s i (by omega)]
  · refine Ev.step (f := fun _ => some (sqV l d)) (fun k => ?_) (Ev.now _)
    simp only [impl_squeezed.l0]
    rw [if_neg (by omega), List.take_of_length_le (by omega)]
    rfl
theorem impl_sq_packed_ev (l : List Int) (d : Nat) (h1 : 1 ≤ d) (h2 : d ≤ 11) (hl : l.length ≤ 1000) : Ev (fun k => impl_packed.f k (sqV l d) (d : Int)) (packV d (sqV l d)) :=
  impl_packed_ev (sqV l d) d h1 (by omega) (by unfold sqV; rw [List.length_map]; omega) (sq_fits l d)

theorem two384_len (s : ByteArray) : ((two384 s).2 = true → ∃ a b, (two384 s).1 = [a, b] ∧ a.length ≤ 1000 ∧ b.length ≤ 1000) := by
  intro h
  unfold two384 at h ⊢
  split
  · split
    · exact ⟨_, _, rfl, polyFromR_len _, polyFromR_len _⟩
    · rename_i h1 h2
      rw [if_pos h1, if_neg h2] at h
      exact absurd h (by decide)
  · rename_i h1
    rw [if_neg h1] at h
    exact absurd h (by decide)
end Go.Proofs.Ytnckhligcdieaaa.Pure
namespace Go.Proofs.Ytnckhligcdieaaa.Pure
open Go.RowKit Go.Proofs.YtnckhligcdieaaaW.PrintWords Go.Proofs.YtnckhligcdieaaaW.PrintLast Go.Proofs.YtnckhligcdieaaaW.PrintMore Go.Proofs.Ytnckhligcdieaaa.P Go.Proofs.Ytnckhligcdieaaa.Kit
set_option linter.unusedVariables false
set_option linter.unusedSimpArgs false

def W64 (x : Int) : Prop := 0 ≤ x ∧ x < 18446744073709551616
theorem wrapU (x : Int) : IntKind.u64.wrap x = x % 18446744073709551616 := IntKind.wrap_u64 x
theorem W64.mod (x : Int) : W64 (x % 18446744073709551616) := by unfold W64; omega
theorem W64.wrap (x : Int) : W64 (IntKind.u64.wrap x) := by rw [wrapU]; exact W64.mod _
theorem W64.xor (a b : Int) : W64 (Go.bits .xor .u64 a b) := W64.wrap _
theorem W64.or (a b : Int) : W64 (Go.bits .or .u64 a b) := W64.wrap _
theorem wraps64 : ∀ n : Int, 0 ≤ n → n < 2 ^ 64 → IntKind.u64.wrap n = n := fun n h0 h1 => by rw [wrapU]; omega
theorem or64 (i : Nat) (x y : Int) (hx : W64 x) (hi : x % 2 ^ i = 0) (hy : W64 y) (hyi : y < 2 ^ i) : Go.bits .or .u64 x y = x + y :=
  bits_join .u64 64 (by decide) wraps64 i x y hx.1 hi (by have := hx.2; omega) hy.1 hyi (by have := hy.2; omega)
theorem or64' (i : Nat) (x y : Int) (hx : W64 x) (hxi : x < 2 ^ i) (hy : W64 y) (hi : y % 2 ^ i = 0) : Go.bits .or .u64 x y = x + y := by
  have h : Go.bits .or .u64 x y = Go.bits .or .u64 y x := by
    show IntKind.u64.wrap (((BitVec.ofInt 64 x ||| BitVec.ofInt 64 y).toNat : Nat) : Int) = IntKind.u64.wrap (((BitVec.ofInt 64 y ||| BitVec.ofInt 64 x).toNat : Nat) : Int)
    rw [BitVec.or_comm]
  rw [h, or64 i y x hy hi hx hxi, Int.add_comm]
theorem xor64 (a b : Nat) (ha : a < 2 ^ 64) (hb : b < 2 ^ 64) : Go.bits .xor .u64 (a : Int) (b : Int) = ((a ^^^ b : Nat) : Int) := by
  show IntKind.u64.wrap (((BitVec.ofInt 64 (a : Int) ^^^ BitVec.ofInt 64 (b : Int)).toNat : Nat) : Int) = _
  have e1 : (BitVec.ofInt 64 (a : Int) ^^^ BitVec.ofInt 64 (b : Int)).toNat = a ^^^ b := by
    rw [BitVec.toNat_xor, BitVec.toNat_ofInt, BitVec.toNat_ofInt]
    congr 1 <;> omega
  rw [e1]
  have := Nat.xor_lt_two_pow ha hb
  exact wraps64 _ (by omega) (by omega)
theorem xor_zero (x : Int) (h : W64 x) : Go.bits .xor .u64 0 x = x := by
  obtain ⟨n, rfl⟩ := Int.eq_ofNat_of_zero_le h.1
  have := xor64 0 n (by omega) (by have := h.2; omega)
  rw [Nat.zero_xor] at this
  exact this
theorem not64_eq (e : Int) (h : W64 e) : IntKind.u64.wrap (18446744073709551615 - e) = not64 e := by
  obtain ⟨n, rfl⟩ := Int.eq_ofNat_of_zero_le h.1
  have hn : n < 18446744073709551616 := by have := h.2; omega
  unfold not64
  show _ = IntKind.u64.wrap (((BitVec.ofInt 64 18446744073709551615 ^^^ BitVec.ofInt 64 (n : Int)).toNat : Nat) : Int)
  have h1 : (BitVec.ofInt 64 18446744073709551615 ^^^ BitVec.ofInt 64 (n : Int)).toNat = 18446744073709551615 - n := by
    have e1 : BitVec.ofInt 64 18446744073709551615 = BitVec.allOnes 64 := by decide
    rw [e1, BitVec.allOnes_xor, BitVec.toNat_not, BitVec.toNat_ofInt]
    omega
  rw [h1, wrapU, wrapU]
  omega
theorem rotl_w (x : Int) (n : Nat) : W64 (rotl x n) := W64.or _ _
theorem rotl_zero (x : Int) (h : W64 x) : rotl x 0 = x := by
  unfold rotl
  have h1 := h.1
  have h2 := h.2
  have e : x / 2 ^ (64 - 0) = 0 := Int.ediv_eq_zero_of_lt h1 (by simpa using h2)
  rw [e, wrapU, show x * 2 ^ 0 % 18446744073709551616 = x by omega, or64 0 x 0 h (by omega) ⟨by decide, by decide⟩ (by decide)]
  omega
/-- A word turned left, by doubling. -/
theorem left_loop (x : Int) (n : Nat) (hn : n < 64) (r : Int) (h : Ev (fun k => spec_l07Left.l0 k x (n : Int) ((2 ^ n : Nat) : Int) (n : Int)) r) : Ev (fun k => spec_l07Left.f k x (n : Int)) r := by
  refine Ev.up (g := fun i k => spec_l07Left.l0 k x (n : Int) ((2 ^ i : Nat) : Int) (i : Int)) n ?_ h 0 (Nat.zero_le _)
  intro i hi hh
  refine Ev.step (fun k => ?_) hh
  have hp : 2 ^ (i + 1) < 2 ^ 64 := Nat.pow_lt_pow_right (by decide) (by omega)
  simp only [spec_l07Left.l0]
  rw [if_pos (by omega), w64s i (by omega), wrapU]
  congr 1
  rw [Nat.pow_succ] at hp ⊢
  omega
theorem left_ev (x : Int) (n : Nat) (h : W64 x) (hn : n < 64) : Ev (fun k => spec_l07Left.f k x (n : Int)) (rotl x n) := by
  refine left_loop x n hn _ ?_
  refine Ev.step (f := fun _ => some (rotl x n)) (fun k => ?_) (Ev.now _)
  simp only [spec_l07Left.l0]
  rw [if_neg (by omega)]
  by_cases h0 : n = 0
  · subst h0
    rw [if_pos (by rfl), rotl_zero x h]
  rw [if_neg (by omega)]
  obtain ⟨A, hA⟩ : ∃ A : Nat, A = 2 ^ n := ⟨_, rfl⟩
  obtain ⟨B, hB⟩ : ∃ B : Nat, B = 2 ^ (64 - n) := ⟨_, rfl⟩
  obtain ⟨C, hC⟩ : ∃ C : Nat, C = 2 ^ (63 - n) := ⟨_, rfl⟩
  have hA0 : 0 < A := by rw [hA]; exact Nat.pow_pos (by decide)
  have hC0 : 0 < C := by rw [hC]; exact Nat.pow_pos (by decide)
  have hCA : C * A = 9223372036854775808 := by rw [hA, hC, ← Nat.pow_add, show 63 - n + n = 63 by omega]
  have hBC : B = C * 2 := by rw [hB, hC, show 64 - n = 63 - n + 1 by omega, Nat.pow_succ]
  have hA2 : A < 18446744073709551616 := by have h4 : 2 ^ n < 2 ^ 64 := Nat.pow_lt_pow_right (by decide) hn; omega
  have hC2 : C ≤ 4611686018427387904 := by
    have : C ≤ 2 ^ 62 := by rw [hC]; exact Nat.pow_le_pow_right (by decide) (by omega)
    omega
  rw [← hA, if_neg (by omega)]
  have e1 : Int.tdiv (9223372036854775808 : Int) (A : Int) = (C : Int) := by
    rw [Int.tdiv_eq_ediv_of_nonneg (by decide), show (9223372036854775808 : Int) = ((C * A : Nat) : Int) by rw [hCA]; rfl]
    rw [← Int.natCast_ediv, Nat.mul_div_cancel _ hA0]
  have e2 : IntKind.u64.wrap ((IntKind.u64.wrap (C : Int)) * 2) = (B : Int) := by rw [wrapU, wrapU]; omega
  rw [e1, e2, if_neg (by omega)]
  have hx1 := h.1
  have hx2 := h.2
  rw [Int.tdiv_eq_ediv_of_nonneg hx1]
  obtain ⟨m, rfl⟩ := Int.eq_ofNat_of_zero_le hx1
  have hm : m < 18446744073709551616 := by omega
  have hBA : B * A = 18446744073709551616 := by rw [hBC, Nat.mul_assoc, Nat.mul_comm 2 A, ← Nat.mul_assoc, hCA]
  have hd : m / B < A := Nat.div_lt_of_lt_mul (by rw [hBA]; exact hm)
  have hlow : m * A % 18446744073709551616 = (m % B) * A := by
    rw [← hBA, Nat.mul_mod_mul_right]
  have hAi : (2 : Int) ^ n = (A : Int) := by rw [hA, Int.natCast_pow]; rfl
  have hBi : (2 : Int) ^ (64 - n) = (B : Int) := by rw [hB, Int.natCast_pow]; rfl
  have hq : ((m : Int) / 2 ^ (64 - n)) = ((m / B : Nat) : Int) := by rw [hBi, ← Int.natCast_ediv]
  have hp2 : IntKind.u64.wrap ((m : Int) * (A : Int)) = (((m % B) * A : Nat) : Int) := by
    rw [wrapU, ← hlow, ← Int.natCast_mul]
    generalize m * A = z
    omega
  have hp : IntKind.u64.wrap ((m : Int) * 2 ^ n) = (((m % B) * A : Nat) : Int) := by rw [hAi, hp2]
  have hlt : (m % B) * A < 18446744073709551616 := by rw [← hlow]; exact Nat.mod_lt _ (by decide)
  have hsum : (m % B) * A + m / B < 18446744073709551616 := by
    have h3 : (m % B + 1) * A ≤ B * A := Nat.mul_le_mul_right _ (Nat.mod_lt _ (by omega))
    rw [hBA, Nat.add_mul, Nat.one_mul] at h3
    omega
  unfold rotl
  rw [hp, hp2, hq]
  have hmn : (((m % B) * A : Nat) : Int) % 2 ^ n = 0 := by rw [hAi, ← Int.natCast_emod, Nat.mul_mod_left]; rfl
  rw [← Int.natCast_ediv]
  generalize (m % B) * A = z at hlt hsum hmn ⊢
  generalize m / B = y at hd hsum ⊢
  rw [or64 n (z : Int) (y : Int) ⟨by omega, by omega⟩ hmn ⟨by omega, by omega⟩ (by rw [hAi]; omega), wrapU, wrapU]
  congr 1
  omega
end Go.Proofs.Ytnckhligcdieaaa.Pure
namespace Go.Proofs.Ytnckhligcdieaaa.Pure
open Go.RowKit Go.Proofs.YtnckhligcdieaaaW.PrintWords Go.Proofs.YtnckhligcdieaaaW.PrintLast Go.Proofs.YtnckhligcdieaaaW.PrintMore Go.Proofs.Ytnckhligcdieaaa.P Go.Proofs.Ytnckhligcdieaaa.Kit
set_option linter.unusedVariables false
set_option linter.unusedSimpArgs false

theorem rd_set (l : List Int) (i j : Nat) (v : Int) (hi : i < l.length) : rd (l.set i v) (j : Int) = if j = i then v else rd l (j : Int) := by
  rw [rd_nat, rd_nat, List.getD_eq_getElem?_getD, List.getD_eq_getElem?_getD, List.getElem?_set]
  by_cases h : i = j
  · subst h
    rw [if_pos rfl, if_pos rfl, if_pos hi]; rfl
  · rw [if_neg h, if_neg (Ne.symm h)]
theorem rd_zeros (n j : Nat) : rd (List.replicate n 0) (j : Int) = 0 := by
  rw [rd_nat, List.getD_eq_getElem?_getD]
  by_cases h : j < n
  · rw [List.getElem?_replicate_of_lt h]; rfl
  · rw [List.getElem?_eq_none (by rw [List.length_replicate]; omega)]; rfl
theorem rd_ext {l u : List Int} (h : l.length = u.length) (hr : ∀ i : Nat, i < l.length → rd l (i : Int) = rd u (i : Int)) : l = u := by
  apply List.ext_getElem h
  intro i h1 h2
  have := hr i h1
  rw [rd_get l i h1, rd_get u i h2] at this
  exact this
theorem rd_in {P : Int → Prop} {l : List Int} (h : ∀ x ∈ l, P x) (i : Nat) (hi : i < l.length) : P (rd l (i : Int)) := by
  rw [rd_get l i hi]; exact h _ (List.getElem_mem hi)
def xr (a b : Int) : Int := Go.bits .xor .u64 a b
/-- A column's sum, n of its lanes. -/
def colS (a : List Int) (x : Nat) : Nat → Int
  | 0 => 0
  | n + 1 => xr (colS a x n) (rd a ((x + 5 * n : Nat) : Int))
theorem thC_rd (a : List Int) (x : Nat) (hx : x < 5) : ∀ m, rd (thC a m) (x : Int) = colS a x ((m + 4 - x) / 5)
  | 0 => by
    rw [show (0 + 4 - x) / 5 = 0 by omega]
    exact rd_zeros 5 x
  | m + 1 => by
    simp only [thC]
    rw [rd_set _ _ _ _ (by rw [thC_len]; omega), thC_rd a x hx m]
    by_cases h : x = m % 5
    · rw [if_pos h, ← h, thC_rd a x hx m, show (m + 1 + 4 - x) / 5 = (m + 4 - x) / 5 + 1 by omega]
      simp only [colS, xr]
      rw [show x + 5 * ((m + 4 - x) / 5) = m by omega]
    · rw [if_neg h, show (m + 1 + 4 - x) / 5 = (m + 4 - x) / 5 by omega]
/-- What is mixed into column x. -/
def mixD (c : List Int) (x : Nat) : Int := xr (rd c (((x + 4) % 5 : Nat) : Int)) (rotl (rd c (((x + 1) % 5 : Nat) : Int)) 1)
theorem thA_rd (a c : List Int) (i : Nat) : ∀ m, m ≤ a.length → rd (thA a c m) (i : Int) = if i < m then xr (rd a (i : Int)) (mixD c (i % 5)) else rd a (i : Int)
  | 0, _ => by rw [if_neg (by omega)]; rfl
  | m + 1, h => by
    simp only [thA]
    rw [rd_set _ _ _ _ (by rw [thA_len]; omega), thA_rd a c i m (by omega)]
    by_cases e : i = m
    · subst e
      rw [if_pos rfl, if_pos (by omega), thA_rd a c i i (by omega), if_neg (by omega)]
      rfl
    · rw [if_neg e]
      by_cases e2 : i < m
      · rw [if_pos e2, if_pos (by omega)]
      · rw [if_neg e2, if_neg (by omega)]
theorem chA_rd (a : List Int) (i : Nat) : ∀ m, m ≤ 25 → rd (chA a m) (i : Int) = if i < m then xr (rd a (i : Int)) (Go.bits .and .u64 (not64 (rd a (((i % 5 + 1) % 5 + 5 * (i / 5) : Nat) : Int))) (rd a (((i % 5 + 2) % 5 + 5 * (i / 5) : Nat) : Int))) else 0
  | 0, _ => by rw [if_neg (by omega)]; exact rd_zeros 25 i
  | m + 1, h => by
    simp only [chA]
    rw [rd_set _ _ _ _ (by rw [chA_len]; omega), chA_rd a i m (by omega)]
    by_cases e : i = m
    · subst e
      rw [if_pos rfl, if_pos (by omega)]
      rfl
    · rw [if_neg e]
      by_cases e2 : i < m
      · rw [if_pos e2, if_pos (by omega)]
      · rw [if_neg e2, if_neg (by omega)]
/-- Where the lane at (x, y) goes. -/
def goes (x y : Nat) : Nat := y + 5 * ((2 * x + 3 * y) % 5)
theorem goes_inj : ∀ x < 5, ∀ y < 5, ∀ u < 5, ∀ v < 5, goes x y = goes u v → x = u ∧ y = v := by
  intro x hx y hy u hu v hv h
  unfold goes at h
  have e : y = v := by omega
  subst e
  have e2 : (2 * x + 3 * y) % 5 = (2 * u + 3 * y) % 5 := by omega
  clear h
  omega
theorem goes_lt (x y : Nat) (hy : y < 5) : goes x y < 25 := by unfold goes; omega
theorem goes_all : ∀ i < 25, ∃ x < 5, ∃ y < 5, goes x y = i := by decide
def turnsV : List Int := [0, 1, 62, 28, 27, 36, 44, 6, 55, 20, 3, 10, 43, 25, 39, 41, 45, 15, 21, 8, 18, 2, 61, 56, 14]
theorem rp_zero : ∀ t < 24, (rpXY (t + 1)).1 + 5 * (rpXY (t + 1)).2 ≠ 0 := by decide
theorem rp_inj : ∀ s < 24, ∀ t < 24, (rpXY (s + 1)).1 + 5 * (rpXY (s + 1)).2 = (rpXY (t + 1)).1 + 5 * (rpXY (t + 1)).2 → s = t := by decide
theorem rpA_rd (a : List Int) (s : Nat) (hs : s < 24) : ∀ t, t ≤ 24 → rd (rpA a t) (((rpXY (s + 1)).1 + 5 * (rpXY (s + 1)).2 : Nat) : Int) = if s < t then rotl (rd a (((rpXY s).1 + 5 * (rpXY s).2 : Nat) : Int)) (rpN s) else 0
  | 0, _ => by
    rw [if_neg (by omega)]
    simp only [rpA]
    rw [rd_set _ _ _ _ (by decide), if_neg (rp_zero s hs)]
    exact rd_zeros 25 _
  | t + 1, h => by
    simp only [rpA]
    have hl := rpXY_lt (t + 1)
    rw [rd_set _ _ _ _ (by rw [rpA_len]; omega), rpA_rd a s hs t (by omega)]
    by_cases e : s = t
    · subst e
      rw [if_pos rfl, if_pos (by omega)]
    · rw [if_neg (fun h2 => e (rp_inj s hs t (by omega) h2))]
      by_cases e2 : s < t
      · rw [if_pos e2, if_pos (by omega)]
      · rw [if_neg e2, if_neg (by omega)]
theorem rpA_rd0 (a : List Int) : ∀ t, t ≤ 24 → rd (rpA a t) ((0 : Nat) : Int) = rd a ((0 : Nat) : Int)
  | 0, _ => by
    simp only [rpA]
    rw [rd_set _ _ _ _ (by decide), if_pos rfl]
  | t + 1, h => by
    simp only [rpA]
    have hl := rpXY_lt (t + 1)
    rw [rd_set _ _ _ _ (by rw [rpA_len]; omega), if_neg (Ne.symm (rp_zero t (by omega))), rpA_rd0 a t (by omega)]
theorem rp_find : ∀ x < 5, ∀ y < 5, (x = 0 ∧ y = 0) ∨ ∃ t < 24, (rpXY t).1 = x ∧ (rpXY t).2 = y ∧ goes x y = (rpXY (t + 1)).1 + 5 * (rpXY (t + 1)).2 ∧ rd turnsV ((x + 5 * y : Nat) : Int) = ((rpN t : Nat) : Int) ∧ rpN t < 64 := by decide
/-- A lane turned and moved. -/
theorem rhoPi_rd (a : List Int) (ha : ∀ x ∈ a, W64 x) (hl : a.length = 25) (x y : Nat) (hx : x < 5) (hy : y < 5) : ∃ n < 64, rd turnsV ((x + 5 * y : Nat) : Int) = ((n : Nat) : Int) ∧ rd (impl_rhoPi.v a) ((goes x y : Nat) : Int) = rotl (rd a ((x + 5 * y : Nat) : Int)) n := by
  rcases rp_find x hx y hy with ⟨rfl, rfl⟩ | ⟨t, ht, h1, h2, h3, h4, h5⟩
  · refine ⟨0, by decide, by decide, ?_⟩
    rw [rotl_zero _ (rd_in ha _ (by omega))]
    exact rpA_rd0 a 24 (Nat.le_refl _)
  · refine ⟨rpN t, h5, h4, ?_⟩
    rw [h3, impl_rhoPi.v, rpA_rd a t ht 24 (Nat.le_refl _), if_pos ht, h1, h2]

theorem theta_rd (a : List Int) (hl : a.length = 25) (i : Nat) (hi : i < 25) : rd (impl_theta.v a) (i : Int) = xr (rd a (i : Int)) (mixD (thC a 25) (i % 5)) := by
  unfold impl_theta.v
  rw [thA_rd a _ i 25 (by omega), if_pos hi]
theorem mem_rd {P : Int → Prop} {l : List Int} (h : ∀ i : Nat, i < l.length → P (rd l (i : Int))) : ∀ x ∈ l, P x := by
  intro x hx
  obtain ⟨i, hi, rfl⟩ := List.mem_iff_getElem.mp hx
  have := h i hi
  rw [rd_get l i hi] at this
  exact this
theorem theta_w (a : List Int) (hl : a.length = 25) : ∀ x ∈ impl_theta.v a, W64 x :=
  mem_rd fun i hi => by rw [theta_rd a hl i (by rw [theta_len a hl] at hi; exact hi)]; exact W64.xor _ _
theorem chi_w (a : List Int) : ∀ x ∈ impl_chi.v a, W64 x :=
  mem_rd fun i hi => by
    unfold impl_chi.v at hi ⊢
    rw [chA_len] at hi
    rw [chA_rd a i 25 (Nat.le_refl _), if_pos hi]; exact W64.xor _ _
theorem thC_w (a : List Int) (j : Nat) (hj : j < 5) : W64 (rd (thC a 25) (j : Int)) := by
  rw [thC_rd a j hj 25, show (25 + 4 - j) / 5 = 5 by omega]
  exact W64.xor _ _

/-- The columns' sums, as the reference makes them. -/
def cL (a : List Int) : Nat → List Int
  | 0 => List.replicate 5 0
  | i + 1 => (cL a i).set i (xr (xr (xr (xr (rd a (i : Int)) (rd a ((i + 5 : Nat) : Int))) (rd a ((i + 10 : Nat) : Int))) (rd a ((i + 15 : Nat) : Int))) (rd a ((i + 20 : Nat) : Int)))
theorem cL_len (a : List Int) : ∀ i, (cL a i).length = 5
  | 0 => rfl
  | i + 1 => by simp only [cL, List.length_set, cL_len a i]
theorem cL_rd (a : List Int) (j : Nat) : ∀ i, i ≤ 5 → j < i → rd (cL a i) (j : Int) = xr (xr (xr (xr (rd a (j : Int)) (rd a ((j + 5 : Nat) : Int))) (rd a ((j + 10 : Nat) : Int))) (rd a ((j + 15 : Nat) : Int))) (rd a ((j + 20 : Nat) : Int))
  | 0, _, h => absurd h (by omega)
  | i + 1, h, hj => by
    simp only [cL]
    rw [rd_set _ _ _ _ (by rw [cL_len]; omega)]
    by_cases e : j = i
    · subst e; rw [if_pos rfl]
    · rw [if_neg e, cL_rd a j i (by omega) (by omega)]
theorem cL_thC (a : List Int) (hl : a.length = 25) (ha : ∀ x ∈ a, W64 x) : cL a 5 = thC a 25 := by
  apply rd_ext (by rw [cL_len, thC_len])
  intro i hi
  rw [cL_len] at hi
  rw [cL_rd a i 5 (Nat.le_refl _) hi, thC_rd a i hi 25, show (25 + 4 - i) / 5 = 5 by omega]
  simp only [colS, xr]
  rw [show i + 5 * 0 = i by omega, xor_zero _ (rd_in ha i (by omega))]
/-- The lanes turned and moved, n of them, as the reference makes them. -/
def bL (a : List Int) : Nat → List Int
  | 0 => List.replicate 25 0
  | n + 1 => (bL a n).set (goes (n / 5) (n % 5)) (rotl (xr (rd a ((n / 5 + 5 * (n % 5) : Nat) : Int)) (mixD (thC a 25) (n / 5))) (rd turnsV ((n / 5 + 5 * (n % 5) : Nat) : Int)).toNat)
theorem bL_len (a : List Int) : ∀ i, (bL a i).length = 25
  | 0 => rfl
  | i + 1 => by simp only [bL, List.length_set, bL_len a i]
theorem bL_rd (a : List Int) (x y : Nat) (hx : x < 5) (hy : y < 5) : ∀ n, n ≤ 25 → 5 * x + y < n → rd (bL a n) ((goes x y : Nat) : Int) = rotl (xr (rd a ((x + 5 * y : Nat) : Int)) (mixD (thC a 25) x)) (rd turnsV ((x + 5 * y : Nat) : Int)).toNat
  | 0, _, h => absurd h (by omega)
  | n + 1, h, hj => by
    simp only [bL]
    rw [rd_set _ _ _ _ (by rw [bL_len]; exact goes_lt _ _ (by omega))]
    by_cases e : 5 * x + y = n
    · have e1 : n / 5 = x := by omega
      have e2 : n % 5 = y := by omega
      rw [e1, e2, if_pos rfl]
    · rw [if_neg (fun h2 => by have := goes_inj x hx y hy (n / 5) (by omega) (n % 5) (by omega) h2; omega), bL_rd a x y hx hy n (by omega) (by omega)]
theorem bL_rhoPi (a : List Int) (hl : a.length = 25) : bL a 25 = impl_rhoPi.v (impl_theta.v a) := by
  apply rd_ext (by rw [bL_len, rhoPi_len])
  intro i hi
  rw [bL_len] at hi
  obtain ⟨x, hx, y, hy, rfl⟩ := goes_all i hi
  obtain ⟨n, hn, h1, h2⟩ := rhoPi_rd (impl_theta.v a) (theta_w a hl) (theta_len a hl) x y hx hy
  rw [bL_rd a x y hx hy 25 (Nat.le_refl _) (by omega), h1, h2, theta_rd a hl _ (by omega), show (x + 5 * y) % 5 = x by omega, Int.toNat_natCast]
/-- The rows mixed, n lanes, as the reference makes them. -/
def hL (b : List Int) : Nat → List Int
  | 0 => List.replicate 25 0
  | n + 1 => (hL b n).set (n / 5 + 5 * (n % 5)) (xr (rd b ((n / 5 + 5 * (n % 5) : Nat) : Int)) (Go.bits .and .u64 (not64 (rd b (((n / 5 + 1) % 5 + 5 * (n % 5) : Nat) : Int))) (rd b (((n / 5 + 2) % 5 + 5 * (n % 5) : Nat) : Int))))
theorem hL_len (b : List Int) : ∀ i, (hL b i).length = 25
  | 0 => rfl
  | i + 1 => by simp only [hL, List.length_set, hL_len b i]
theorem hL_rd (b : List Int) (x y : Nat) (hx : x < 5) (hy : y < 5) : ∀ n, n ≤ 25 → 5 * x + y < n → rd (hL b n) ((x + 5 * y : Nat) : Int) = xr (rd b ((x + 5 * y : Nat) : Int)) (Go.bits .and .u64 (not64 (rd b (((x + 1) % 5 + 5 * y : Nat) : Int))) (rd b (((x + 2) % 5 + 5 * y : Nat) : Int)))
  | 0, _, h => absurd h (by omega)
  | n + 1, h, hj => by
    simp only [hL]
    rw [rd_set _ _ _ _ (by rw [hL_len]; omega)]
    by_cases e : 5 * x + y = n
    · have e1 : n / 5 = x := by omega
      have e2 : n % 5 = y := by omega
      rw [e1, e2, if_pos rfl]
    · rw [if_neg (by omega), hL_rd b x y hx hy n (by omega) (by omega)]
theorem hL_chi (b : List Int) : hL b 25 = impl_chi.v b := by
  apply rd_ext (by rw [hL_len]; exact (chA_len _ _).symm)
  intro i hi
  rw [hL_len] at hi
  have h1 := hL_rd b (i % 5) (i / 5) (by omega) (by omega) 25 (Nat.le_refl _) (by omega)
  rw [show i % 5 + 5 * (i / 5) = i by omega] at h1
  rw [h1, impl_chi.v, chA_rd b i 25 (Nat.le_refl _), if_pos hi]
end Go.Proofs.Ytnckhligcdieaaa.Pure
namespace Go.Proofs.Ytnckhligcdieaaa.Pure
open Go.RowKit Go.Proofs.YtnckhligcdieaaaW.PrintWords Go.Proofs.YtnckhligcdieaaaW.PrintLast Go.Proofs.YtnckhligcdieaaaW.PrintMore Go.Proofs.Ytnckhligcdieaaa.P Go.Proofs.Ytnckhligcdieaaa.Kit
set_option linter.unusedVariables false
set_option linter.unusedSimpArgs false

def roundV (a : List Int) (rc : Int) : List Int := (oneRound a).set 0 (Go.bits .xor .u64 (rd (oneRound a) ((0 : Nat) : Int)) rc)
theorem chi_loop (b : List Int) (hb : b.length = 25) (hw : ∀ x ∈ b, W64 x) (rc : Int) : Ev (fun k => spec_l07Round.l3 k rc b (List.replicate 25 0) 0) ((impl_chi.v b).set 0 (Go.bits .xor .u64 (rd (impl_chi.v b) ((0 : Nat) : Int)) rc)) := by
  refine Ev.up (g := fun i k => spec_l07Round.l3 k rc b (hL b (5 * i)) (i : Int)) 5 ?_ ?_ 0 (Nat.zero_le _)
  · intro x hx hh
    refine Ev.step (f := fun k => spec_l07Round.l4 k rc b (hL b (5 * x)) (x : Int) 0) (fun k => ?_) ?_
    · simp only [spec_l07Round.l3]
      rw [if_pos (by omega)]
    · refine Ev.up (g := fun j k => spec_l07Round.l4 k rc b (hL b (5 * x + j)) (x : Int) (j : Int)) 5 ?_ ?_ 0 (Nat.zero_le _)
      · intro y hy h2
        refine Ev.step (fun k => ?_) h2
        have e1 : wrap64 ((x : Int) + wrap64 (5 * (y : Int))) = ((x + 5 * y : Nat) : Int) := by
          rw [w64 (x := 5 * (y : Int)) (by omega) (by omega), w64 (by omega) (by omega)]; omega
        have e2 : wrap64 (Int.tmod (wrap64 ((x : Int) + 1)) 5 + wrap64 (5 * (y : Int))) = (((x + 1) % 5 + 5 * y : Nat) : Int) := by
          rw [w64 (x := (x : Int) + 1) (by omega) (by omega), w64 (x := 5 * (y : Int)) (by omega) (by omega), Int.tmod_eq_emod_of_nonneg (by omega), w64 (by omega) (by omega)]; omega
        have e3 : wrap64 (Int.tmod (wrap64 ((x : Int) + 2)) 5 + wrap64 (5 * (y : Int))) = (((x + 2) % 5 + 5 * y : Nat) : Int) := by
          rw [w64 (x := (x : Int) + 2) (by omega) (by omega), w64 (x := 5 * (y : Int)) (by omega) (by omega), Int.tmod_eq_emod_of_nonneg (by omega), w64 (by omega) (by omega)]; omega
        simp only [spec_l07Round.l4, e1, e2, e3]
        have hl := hL_len b (5 * x + y)
        rw [if_pos (by omega), if_pos (by omega), if_pos (by omega), if_pos (by omega), if_pos (by omega), if_pos (by omega), if_pos (by omega), if_pos (by omega), w64s y (by omega), not64_eq _ (rd_in hw _ (by omega)), Int.toNat_natCast]
        congr 1
        show _ = hL b (5 * x + y + 1)
        simp only [hL, xr]
        rw [show (5 * x + y) / 5 = x by omega, show (5 * x + y) % 5 = y by omega]
      · refine Ev.step (fun k => ?_) hh
        simp only [spec_l07Round.l4]
        rw [if_neg (by omega), w64s x (by omega)]
        rfl
  · refine Ev.step (f := fun _ => some ((impl_chi.v b).set 0 (Go.bits .xor .u64 (rd (impl_chi.v b) ((0 : Nat) : Int)) rc))) (fun k => ?_) (Ev.now _)
    simp only [spec_l07Round.l3]
    have hl := hL_len b 25
    rw [if_neg (by omega), show 5 * 5 = 25 from rfl, if_pos (by omega), hL_chi]
    rfl
theorem at_goes (x y : Nat) (hx : x < 5) (hy : y < 5) : wrap64 ((y : Int) + wrap64 (5 * Int.tmod (wrap64 (wrap64 (2 * (x : Int)) + wrap64 (3 * (y : Int)))) 5)) = ((goes x y : Nat) : Int) := by
  have h1 : wrap64 (2 * (x : Int)) = 2 * (x : Int) := w64 (by omega) (by omega)
  have h2 : wrap64 (3 * (y : Int)) = 3 * (y : Int) := w64 (by omega) (by omega)
  have h3 : wrap64 (2 * (x : Int) + 3 * (y : Int)) = 2 * (x : Int) + 3 * (y : Int) := w64 (by omega) (by omega)
  rw [h1, h2, h3, Int.tmod_eq_emod_of_nonneg (by omega)]
  have h4 : wrap64 (5 * ((2 * (x : Int) + 3 * (y : Int)) % 5)) = 5 * ((2 * (x : Int) + 3 * (y : Int)) % 5) := w64 (by omega) (by omega)
  rw [h4, w64 (by omega) (by omega)]
  unfold goes
  omega
theorem at_lane (x y : Nat) (hx : x < 5) (hy : y < 5) : wrap64 ((x : Int) + wrap64 (5 * (y : Int))) = ((x + 5 * y : Nat) : Int) := by
  have h1 : wrap64 (5 * (y : Int)) = 5 * (y : Int) := w64 (by omega) (by omega)
  rw [h1, w64 (by omega) (by omega)]
  omega
theorem mix_loop (a c T : List Int) (B : Nat → List Int) (hl : a.length = 25) (rc : Int) (r : List Int) (hc : c.length = 5) (hcw : ∀ j : Nat, j < 5 → W64 (rd c (j : Int))) (htl : T.length = 25)
    (hT : ∀ x y : Nat, x < 5 → y < 5 → ∃ n < 64, rd T ((x + 5 * y : Nat) : Int) = ((n : Nat) : Int)) (hB0 : B 0 = List.replicate 25 0) (hBl : ∀ n, (B n).length = 25)
    (hBs : ∀ x y : Nat, x < 5 → y < 5 → B (5 * x + y + 1) = (B (5 * x + y)).set (goes x y) (rotl (xr (rd a ((x + 5 * y : Nat) : Int)) (mixD c x)) (rd T ((x + 5 * y : Nat) : Int)).toNat))
    (h : Ev (fun k => spec_l07Round.l3 k rc (B 25) (List.replicate 25 0) 0) r) : Ev (fun k => spec_l07Round.l1 k a T rc c (List.replicate 25 0) 0) r := by
  rw [← hB0]
  refine Ev.up (g := fun i k => spec_l07Round.l1 k a T rc c (B (5 * i)) (i : Int)) 5 ?_ ?_ 0 (Nat.zero_le _)
  · intro x hx hh
    have e1 : Int.tmod (wrap64 ((x : Int) + 4)) 5 = (((x + 4) % 5 : Nat) : Int) := by
      rw [w64 (x := (x : Int) + 4) (by omega) (by omega), Int.tmod_eq_emod_of_nonneg (by omega)]; omega
    have e2 : Int.tmod (wrap64 ((x : Int) + 1)) 5 = (((x + 1) % 5 : Nat) : Int) := by
      rw [w64 (x := (x : Int) + 1) (by omega) (by omega), Int.tmod_eq_emod_of_nonneg (by omega)]; omega
    refine Ev.step (f := fun k => (spec_l07Left.f k (rd c (((x + 1) % 5 : Nat) : Int)) ((1 : Nat) : Int)).bind fun t => spec_l07Round.l2 k a T rc c (B (5 * x)) (x : Int) (Go.bits .xor .u64 (rd c (((x + 4) % 5 : Nat) : Int)) t) ((0 : Nat) : Int)) (fun k => ?_) ?_
    · simp only [spec_l07Round.l1, e1, e2]
      rw [if_pos (by omega), if_pos (by omega), if_pos (by omega), if_pos (by omega), if_pos (by omega)]
      rfl
    · refine Ev.bind (left_ev _ 1 (hcw _ (by omega)) (by decide)) ?_
      have hm : Go.bits .xor .u64 (rd c (((x + 4) % 5 : Nat) : Int)) (rotl (rd c (((x + 1) % 5 : Nat) : Int)) 1) = mixD c x := rfl
      rw [hm]
      clear hm e1 e2
      have hB2 := fun y hy => hBs x y hx hy
      generalize mixD c x = D at hB2 ⊢
      refine Ev.up (g := fun j k => spec_l07Round.l2 k a T rc c (B (5 * x + j)) (x : Int) D (j : Int)) 5 ?_ ?_ 0 (Nat.zero_le _)
      · intro y hy h2
        have hg := goes_lt x y hy
        have hbl := hBl (5 * x + y)
        have c1 : (y : Int) < 5 := by omega
        have c2 : (0 : Int) ≤ ((x + 5 * y : Nat) : Int) := by omega
        have c3 : ((x + 5 * y : Nat) : Int) < (a.length : Int) := by rw [hl]; omega
        have c4 : ((x + 5 * y : Nat) : Int) < (T.length : Int) := by rw [htl]; omega
        have c5 : y < 9223372036854775807 := by omega
        have c6 : (0 : Int) ≤ ((goes x y : Nat) : Int) := by omega
        have c7 : ((goes x y : Nat) : Int) < ((B (5 * x + y)).length : Int) := by rw [hbl]; omega
        have e1 := at_lane x y hx hy
        have e2 := at_goes x y hx hy
        obtain ⟨n, hn, h3⟩ := hT x y hx hy
        refine Ev.step (f := fun k => (spec_l07Left.f k (Go.bits .xor .u64 (rd a ((x + 5 * y : Nat) : Int)) D) ((n : Nat) : Int)).bind fun t => spec_l07Round.l2 k a T rc c ((B (5 * x + y)).set (goes x y) t) (x : Int) D ((y + 1 : Nat) : Int)) (fun k => ?_) ?_
        · simp only [spec_l07Round.l2, e1, e2, h3]
          rw [if_pos c1, if_pos c2, if_pos c3, if_pos c4, w64s y c5]
          congr 1
          funext t
          rw [if_pos c6, if_pos c7, Int.toNat_natCast]
        · refine Ev.bind (left_ev _ n (W64.xor _ _) hn) ?_
          have h4 := hB2 y hy
          rw [h3, Int.toNat_natCast] at h4
          unfold xr at h4
          rw [show 5 * x + (y + 1) = 5 * x + y + 1 from rfl, h4] at h2
          exact h2
      · refine Ev.step (fun k => ?_) hh
        simp only [spec_l07Round.l2]
        rw [if_neg (by omega), w64s x (by omega), show 5 * x + 5 = 5 * (x + 1) by omega]
  · refine Ev.step (fun k => ?_) h
    simp only [spec_l07Round.l1]
    rw [if_neg (by omega), if_pos (by decide)]
theorem bL_w (a : List Int) (hl : a.length = 25) : ∀ x ∈ bL a 25, W64 x := by
  refine mem_rd fun i hi => ?_
  rw [bL_len] at hi
  obtain ⟨x, hx, y, hy, rfl⟩ := goes_all i hi
  rw [bL_rd a x y hx hy 25 (Nat.le_refl _) (by omega)]
  exact rotl_w _ _
theorem mix_ev (a : List Int) (hl : a.length = 25) (ha : ∀ x ∈ a, W64 x) (rc : Int) : Ev (fun k => spec_l07Round.l1 k a turnsV rc (thC a 25) (List.replicate 25 0) 0) (roundV a rc) := by
  refine mix_loop a (thC a 25) turnsV (bL a) hl rc _ (thC_len a 25) (thC_w a) rfl ?_ rfl (bL_len a) ?_ ?_
  · intro x y hx hy
    obtain ⟨n, hn, h3, _⟩ := rhoPi_rd a ha hl x y hx hy
    exact ⟨n, hn, h3⟩
  · intro x y hx hy
    simp only [bL]
    rw [show (5 * x + y) / 5 = x by omega, show (5 * x + y) % 5 = y by omega]
  · have h := chi_loop (bL a 25) (bL_len a 25) (bL_w a hl) rc
    rw [show impl_chi.v (bL a 25) = oneRound a by rw [bL_rhoPi a hl]; rfl] at h
    exact h
theorem round_ev (a : List Int) (hl : a.length = 25) (ha : ∀ x ∈ a, W64 x) (rc : Int) : Ev (fun k => spec_l07Round.f k a turnsV rc) (roundV a rc) := by
  unfold spec_l07Round.f
  refine Ev.pos (by decide) ?_
  refine Ev.up (g := fun i k => spec_l07Round.l0 k a turnsV rc (cL a i) (i : Int)) 5 ?_ ?_ 0 (Nat.zero_le _)
  · intro i hi hh
    refine Ev.step (fun k => ?_) hh
    have hc := cL_len a i
    have e5 : wrap64 ((i : Int) + 5) = ((i + 5 : Nat) : Int) := by rw [w64 (by omega) (by omega)]; rfl
    have e10 : wrap64 ((i : Int) + 10) = ((i + 10 : Nat) : Int) := by rw [w64 (by omega) (by omega)]; rfl
    have e15 : wrap64 ((i : Int) + 15) = ((i + 15 : Nat) : Int) := by rw [w64 (by omega) (by omega)]; rfl
    have e20 : wrap64 ((i : Int) + 20) = ((i + 20 : Nat) : Int) := by rw [w64 (by omega) (by omega)]; rfl
    simp only [spec_l07Round.l0, e5, e10, e15, e20]
    rw [if_pos (by omega), if_pos (by omega), if_pos (by omega), if_pos (by omega), if_pos (by omega), if_pos (by omega), if_pos (by omega), if_pos (by omega), if_pos (by omega), if_pos (by omega), if_pos (by omega), if_pos (by omega), w64s i (by omega), Int.toNat_natCast]
    rfl
  · refine Ev.step (f := fun k => spec_l07Round.l1 k a turnsV rc (thC a 25) (List.replicate 25 0) 0) (fun k => ?_) (mix_ev a hl ha rc)
    simp only [spec_l07Round.l0]
    rw [if_neg (by omega), if_pos (by decide), cL_thC a hl ha]
end Go.Proofs.Ytnckhligcdieaaa.Pure
namespace Go.Proofs.Ytnckhligcdieaaa.Pure
open Go.RowKit Go.Proofs.YtnckhligcdieaaaW.PrintWords Go.Proofs.YtnckhligcdieaaaW.PrintLast Go.Proofs.YtnckhligcdieaaaW.PrintMore Go.Proofs.Ytnckhligcdieaaa.P Go.Proofs.Ytnckhligcdieaaa.Kit
set_option linter.unusedVariables false
set_option linter.unusedSimpArgs false

theorem turns_ev : Ev (fun k => spec_l07Turns.f k) turnsV := Ev.of (fun k => spec_l07Turns.mono k) (k := 40) (by kernel_rfl)
def rcL : List Int := (List.range 24).map rcV
theorem rounds_ev : Ev (fun k => spec_l07Rounds.f k) rcL := Ev.of (fun k => spec_l07Rounds.mono k) (k := 300) (by kernel_rfl)
theorem rcL_rd (t : Nat) (h : t < 24) : rd rcL (t : Int) = rcV t := by
  rw [rd_get _ t (by unfold rcL; simpa using h)]
  simp only [rcL, List.getElem_map, List.getElem_range]
theorem rcL_len : rcL.length = 24 := by unfold rcL; simp
theorem roundV_w (a : List Int) (rc : Int) : ∀ x ∈ roundV a rc, W64 x := by
  intro x hx
  rcases List.mem_or_eq_of_mem_set hx with h | h
  · exact chi_w _ x h
  · rw [h]; exact W64.xor _ _
theorem permA_w (a : List Int) (ha : ∀ x ∈ a, W64 x) : ∀ t, ∀ x ∈ permA a t, W64 x
  | 0 => ha
  | t + 1 => roundV_w _ _
theorem perm_ev (a : List Int) (hl : a.length = 25) (ha : ∀ x ∈ a, W64 x) : Ev (fun k => spec_l07Permute.f k a) (impl_permuted.v a) := by
  unfold spec_l07Permute.f
  refine Ev.bind turns_ev (Ev.bind rounds_ev ?_)
  refine Ev.up (g := fun i k => spec_l07Permute.l0 k (permA a i) turnsV rcL (i : Int)) 24 ?_ ?_ 0 (Nat.zero_le _)
  · intro t ht hh
    have c1 : (t : Int) < 24 := by omega
    have c2 : (0 : Int) ≤ (t : Int) := by omega
    have c3 : (t : Int) < (rcL.length : Int) := by rw [rcL_len]; omega
    have c4 := w64s t (by omega)
    refine Ev.step (f := fun k => (spec_l07Round.f k (permA a t) turnsV (rcV t)).bind fun u => spec_l07Permute.l0 k u turnsV rcL ((t + 1 : Nat) : Int)) (fun k => ?_) ?_
    · simp only [spec_l07Permute.l0]
      rw [if_pos c1, if_pos c2, if_pos c3, c4, rcL_rd t ht]
    · exact Ev.bind (round_ev _ (permA_len a t hl) (permA_w a ha t) _) hh
  · refine Ev.step (f := fun _ => some (impl_permuted.v a)) (fun k => ?_) (Ev.now _)
    simp only [spec_l07Permute.l0]
    rw [if_neg (by omega)]
    rfl
/-- The number of n bytes, the lowest first. -/
def pb (f : Nat → Int) : Nat → Int
  | 0 => 0
  | j + 1 => pb f j + f j * ((2 ^ (8 * j) : Nat) : Int)
theorem pb_in (f : Nat → Int) (hf : ∀ q, 0 ≤ f q ∧ f q ≤ 255) : ∀ n, 0 ≤ pb f n ∧ pb f n < ((2 ^ (8 * n) : Nat) : Int)
  | 0 => by simp [pb]
  | n + 1 => by
    have ih := pb_in f hf n
    have hn := hf n
    simp only [pb]
    have e : 2 ^ (8 * (n + 1)) = 256 * 2 ^ (8 * n) := by rw [Nat.mul_add, Nat.pow_add, Nat.mul_comm]
    rw [e]
    generalize 2 ^ (8 * n) = A at ih ⊢
    have h1 : f n * (A : Int) ≤ 255 * (A : Int) := Int.mul_le_mul_of_nonneg_right hn.2 (by omega)
    have h2 : 0 ≤ f n * (A : Int) := Int.mul_nonneg hn.1 (by omega)
    generalize f n * (A : Int) = z at h1 h2 ⊢
    omega
theorem bt_in (s : ByteArray) (i : Int) : 0 ≤ bt s i ∧ bt s i ≤ 255 := by have := bt_range s i; omega
/-- The bytes of lane i. -/
def lb (s : ByteArray) (i : Nat) (q : Nat) : Int := bt s ((8 * i + q : Nat) : Int)
def laneV (s : ByteArray) (i : Nat) : Int := pb (lb s i) 8
theorem laneV_w (s : ByteArray) (i : Nat) : W64 (laneV s i) := by
  have h := pb_in (lb s i) (fun q => bt_in s _) 8
  exact ⟨h.1, h.2⟩
theorem lane_or (f : Nat → Int) (hf : ∀ q, 0 ≤ f q ∧ f q ≤ 255) (j : Nat) (hj : j < 8) : Go.bits .or .u64 (pb f j) (IntKind.u64.wrap (IntKind.u64.wrap (f j) * 2 ^ min (8 * j) 64)) = pb f (j + 1) := by
  have hb := hf j
  have h1 := pb_in f hf j
  have h9 := pb_in f hf (j + 1)
  have hA : 2 ^ (8 * j) ≤ 2 ^ 56 := Nat.pow_le_pow_right (by decide) (by omega)
  have hB : 2 ^ (8 * (j + 1)) ≤ 2 ^ 64 := Nat.pow_le_pow_right (by decide) (by omega)
  rw [Nat.min_eq_left (by omega), show (2 : Int) ^ (8 * j) = ((2 ^ (8 * j) : Nat) : Int) by rw [Int.natCast_pow]; rfl]
  simp only [pb] at h9 ⊢
  have hi : (2 : Int) ^ (8 * j) = ((2 ^ (8 * j) : Nat) : Int) := by rw [Int.natCast_pow]; rfl
  have e1 : IntKind.u64.wrap (f j) = f j := by rw [wrapU]; omega
  have h2 : 0 ≤ f j * ((2 ^ (8 * j) : Nat) : Int) := Int.mul_nonneg hb.1 (by omega)
  have h3 : f j * ((2 ^ (8 * j) : Nat) : Int) % ((2 ^ (8 * j) : Nat) : Int) = 0 := Int.mul_emod_left _ _
  rw [e1]
  have h4 : f j * ((2 ^ (8 * j) : Nat) : Int) < 18446744073709551616 := by
    generalize f j * ((2 ^ (8 * j) : Nat) : Int) = z at h2 h9 ⊢
    omega
  have e2 : IntKind.u64.wrap (f j * ((2 ^ (8 * j) : Nat) : Int)) = f j * ((2 ^ (8 * j) : Nat) : Int) := by
    rw [wrapU]
    generalize f j * ((2 ^ (8 * j) : Nat) : Int) = z at h2 h4 ⊢
    omega
  rw [e2]
  exact or64' (8 * j) _ _ ⟨h1.1, by omega⟩ (by rw [hi]; exact h1.2) ⟨h2, h4⟩ (by rw [hi]; exact h3)
theorem lanesA_rd (s : ByteArray) (i : Nat) (hi : i < 25) : ∀ m, m ≤ 200 → rd (lanesA s m) (i : Int) = pb (lb s i) (min 8 (m - 8 * i))
  | 0, _ => by
    rw [show min 8 (0 - 8 * i) = 0 by omega]
    exact rd_zeros 25 i
  | m + 1, h => by
    simp only [lanesA]
    rw [rd_set _ _ _ _ (by rw [lanesA_len]; omega), lanesA_rd s i hi m (by omega)]
    by_cases e : i = m / 8
    · rw [if_pos e, ← e, lanesA_rd s i hi m (by omega), show min 8 (m - 8 * i) = m % 8 by omega, show min 8 (m + 1 - 8 * i) = m % 8 + 1 by omega, ← lane_or (lb s i) (fun q => bt_in s _) (m % 8) (by omega)]
      unfold lb
      rw [show 8 * i + m % 8 = m by omega]
    · rw [if_neg e, show min 8 (m + 1 - 8 * i) = min 8 (m - 8 * i) by omega]
theorem lanesOf_eq (s : ByteArray) : impl_lanesOf.v s = (List.range 25).map (laneV s) := by
  unfold impl_lanesOf.v
  apply rd_ext (by rw [lanesA_len]; rfl)
  intro i hi
  rw [lanesA_len] at hi
  rw [lanesA_rd s i hi 200 (Nat.le_refl _), rd_get _ i (by simpa using hi), List.getElem_map, List.getElem_range, show min 8 (200 - 8 * i) = 8 by omega]
  rfl
/-- The same number, from its highest byte on. -/
def hv (f : Nat → Int) : Nat → Int
  | 0 => 0
  | n + 1 => hv f n * 256 + f (7 - n)
theorem hv_in (f : Nat → Int) (hf : ∀ q, 0 ≤ f q ∧ f q ≤ 255) : ∀ n, 0 ≤ hv f n ∧ hv f n < ((2 ^ (8 * n) : Nat) : Int)
  | 0 => by simp [hv]
  | n + 1 => by
    have ih := hv_in f hf n
    have hn := hf (7 - n)
    simp only [hv]
    have e : 2 ^ (8 * (n + 1)) = 256 * 2 ^ (8 * n) := by rw [Nat.mul_add, Nat.pow_add, Nat.mul_comm]
    rw [e]
    generalize 2 ^ (8 * n) = A at ih ⊢
    omega
theorem hv_pb (f : Nat → Int) : hv f 8 = pb f 8 := by
  simp only [hv, pb]
  simp only [Nat.reduceSub, Nat.reduceMul, Nat.reducePow]
  omega
theorem lanes_ev (s : ByteArray) (n : Nat) (hs : s.size = 8 * n) (hn : n ≤ 1000) : Ev (fun k => spec_l07Lanes.f k s) ((List.range n).map (laneV s)) := by
  unfold spec_l07Lanes.f
  refine Ev.up (g := fun i k => spec_l07Lanes.l0 k s ((List.range i).map (laneV s)) ((8 * i : Nat) : Int)) n ?_ ?_ 0 (Nat.zero_le _)
  · intro i hi hh
    refine Ev.step (f := fun k => spec_l07Lanes.l1 k s ((List.range i).map (laneV s)) ((8 * i : Nat) : Int) 0 7) (fun k => ?_) ?_
    · simp only [spec_l07Lanes.l0]
      rw [if_pos (by rw [w64 (by omega) (by omega)]; omega)]
    · refine Ev.up (g := fun j k => spec_l07Lanes.l1 k s ((List.range i).map (laneV s)) ((8 * i : Nat) : Int) (hv (lb s i) j) (7 - (j : Int))) 8 ?_ ?_ 0 (Nat.zero_le _)
      · intro j hj h2
        refine Ev.step (fun k => ?_) h2
        have e1 : wrap64 (((8 * i : Nat) : Int) + (7 - (j : Int))) = ((8 * i + (7 - j) : Nat) : Int) := by rw [w64 (by omega) (by omega)]; omega
        have e2 : wrap64 (7 - (j : Int) - 1) = 7 - ((j + 1 : Nat) : Int) := by rw [w64 (by omega) (by omega)]; omega
        have hA : 2 ^ (8 * j) ≤ 2 ^ 56 := Nat.pow_le_pow_right (by decide) (by omega)
        have h3 := hv_in (lb s i) (fun q => bt_in s _) j
        have h4 := bt_in s ((8 * i + (7 - j) : Nat) : Int)
        have c1 : 7 - (j : Int) ≥ 0 := by omega
        have c2 : (0 : Int) ≤ ((8 * i + (7 - j) : Nat) : Int) := by omega
        have c3 : ((8 * i + (7 - j) : Nat) : Int) < (s.size : Int) := by omega
        simp only [spec_l07Lanes.l1, e1, e2]
        rw [if_pos c1, if_pos c2, if_pos c3]
        congr 1
        simp only [hv]
        show _ = _ + bt s ((8 * i + (7 - j) : Nat) : Int)
        generalize hv (lb s i) j = z at h3 ⊢
        generalize bt s ((8 * i + (7 - j) : Nat) : Int) = b at h4 ⊢
        rw [wrapU, wrapU, wrapU]
        omega
      · refine Ev.step (fun k => ?_) hh
        simp only [spec_l07Lanes.l1]
        rw [if_neg (by omega), if_pos (by simp; omega), hv_pb, w64 (by omega) (by omega), List.range_succ, List.map_append]
        rfl
  · refine Ev.step (f := fun _ => some ((List.range n).map (laneV s))) (fun k => ?_) (Ev.now _)
    simp only [spec_l07Lanes.l0]
    rw [if_neg (by rw [w64 (by omega) (by omega)]; omega)]
/-- The byte m of lanes. -/
def laneB (xs : List Int) (m : Nat) : Int := rd xs ((m / 8 : Nat) : Int) / 2 ^ (8 * (m % 8)) % 256
theorem textA_rd (xs : List Int) (i : Nat) : ∀ m, m ≤ 200 → rd (textA xs m) (i : Int) = if i < m then laneB xs i else 0
  | 0, _ => by rw [if_neg (by omega)]; exact rd_zeros 200 i
  | m + 1, h => by
    simp only [textA]
    rw [rd_set _ _ _ _ (by rw [textA_len]; omega), textA_rd xs i m (by omega)]
    by_cases e : i = m
    · subst e
      rw [if_pos rfl, if_pos (by omega)]
      rfl
    · rw [if_neg e]
      by_cases e2 : i < m
      · rw [if_pos e2, if_pos (by omega)]
      · rw [if_neg e2, if_neg (by omega)]
theorem textA_eq (xs : List Int) : textA xs 200 = (List.range 200).map (laneB xs) := by
  apply rd_ext (by rw [textA_len]; simp)
  intro i hi
  rw [textA_len] at hi
  rw [textA_rd xs i 200 (Nat.le_refl _), if_pos hi, rd_get _ i (by simpa using hi), List.getElem_map, List.getElem_range]
theorem bytes_ev (xs : List Int) (hx : ∀ x ∈ xs, W64 x) (hl : xs.length ≤ 1000) : Ev (fun k => spec_l07Bytes.f k xs) (strOfNums ((List.range (8 * xs.length)).map (laneB xs))) := by
  unfold spec_l07Bytes.f
  refine Ev.up (g := fun i k => spec_l07Bytes.l0 k xs ((List.range (8 * i)).map (laneB xs)) (i : Int)) xs.length ?_ ?_ 0 (Nat.zero_le _)
  · intro i hi hh
    have hw := rd_in hx i hi
    refine Ev.step (f := fun k => spec_l07Bytes.l1 k xs ((List.range (8 * i + 0)).map (laneB xs)) (i : Int) (rd xs (i : Int) / 2 ^ (8 * 0)) ((0 : Nat) : Int)) (fun k => ?_) ?_
    · simp only [spec_l07Bytes.l0]
      rw [if_pos (by omega), if_pos (by omega), Nat.mul_zero, Int.pow_zero, Int.ediv_one]
      rfl
    · refine Ev.up (g := fun j k => spec_l07Bytes.l1 k xs ((List.range (8 * i + j)).map (laneB xs)) (i : Int) (rd xs (i : Int) / 2 ^ (8 * j)) (j : Int)) 8 ?_ ?_ 0 (Nat.zero_le _)
      · intro j hj h2
        refine Ev.step (fun k => ?_) h2
        have hA : (0 : Int) < 2 ^ (8 * j) := Int.pow_pos (by decide)
        have h3 : 0 ≤ rd xs (i : Int) / 2 ^ (8 * j) := Int.ediv_nonneg hw.1 (by omega)
        have h4 : rd xs (i : Int) / 2 ^ (8 * j) ≤ rd xs (i : Int) := Int.ediv_le_self _ hw.1
        have h5 := hw.2
        have e1 : rd xs (i : Int) / 2 ^ (8 * j) / 256 = rd xs (i : Int) / 2 ^ (8 * (j + 1)) := by
          rw [Int.ediv_ediv_of_nonneg (by omega), Nat.mul_add, Int.pow_add]; rfl
        have e3 : laneB xs (8 * i + j) = rd xs (i : Int) / 2 ^ (8 * j) % 256 := by
          unfold laneB
          rw [show (8 * i + j) / 8 = i by omega, show (8 * i + j) % 8 = j by omega]
        have e2 : (List.range (8 * i + (j + 1))).map (laneB xs) = (List.range (8 * i + j)).map (laneB xs) ++ [rd xs (i : Int) / 2 ^ (8 * j) % 256] := by
          rw [show 8 * i + (j + 1) = 8 * i + j + 1 from rfl, List.range_succ, List.map_append, List.map_singleton, e3]
        simp only [spec_l07Bytes.l1]
        rw [if_pos (by omega), if_pos (by simp; omega), w64s j (by omega), e2, ← e1]
        generalize rd xs (i : Int) / 2 ^ (8 * j) = z at h3 h4 ⊢
        rw [Int.tdiv_eq_ediv_of_nonneg h3, Int.tmod_eq_emod_of_nonneg h3, wrapU]
        congr 1
        · congr 2; omega
        · omega
      · refine Ev.step (fun k => ?_) hh
        simp only [spec_l07Bytes.l1]
        rw [if_neg (by omega), w64s i (by omega), show 8 * i + 8 = 8 * (i + 1) by omega]
  · refine Ev.step (f := fun _ => some (strOfNums ((List.range (8 * xs.length)).map (laneB xs)))) (fun k => ?_) (Ev.now _)
    simp only [spec_l07Bytes.l0]
    rw [if_neg (by omega)]
theorem text_ev (xs : List Int) (hx : ∀ x ∈ xs, W64 x) (hl : xs.length = 25) : Ev (fun k => spec_l07Bytes.f k xs) (impl_text.v xs) := by
  have h := bytes_ev xs hx (by omega)
  rw [hl, ← textA_eq] at h
  exact h
theorem lanesOf_w (s : ByteArray) : ∀ x ∈ impl_lanesOf.v s, W64 x := by
  rw [lanesOf_eq]
  intro x hx
  obtain ⟨i, _, rfl⟩ := List.mem_map.mp hx
  exact laneV_w s i
theorem lanesOf_len (s : ByteArray) : (impl_lanesOf.v s).length = 25 := lanesA_len s 200
theorem permuted_w (a : List Int) (ha : ∀ x ∈ a, W64 x) : ∀ x ∈ impl_permuted.v a, W64 x := permA_w a ha 24
theorem permute_ev (s : ByteArray) (hs : s.size = 200) : Ev (fun k => spec_Permute.f k s) (permB s) := by
  unfold spec_Permute.f
  refine Ev.pos (by omega) ?_
  have h := lanes_ev s 25 (by omega) (by decide)
  rw [← lanesOf_eq] at h
  exact Ev.bind h (Ev.bind (perm_ev _ (lanesOf_len s) (lanesOf_w s)) (Ev.bind (text_ev _ (permuted_w _ (lanesOf_w s)) (permA_len _ 24 (lanesOf_len s))) (Ev.now _)))
end Go.Proofs.Ytnckhligcdieaaa.Pure
namespace Go.Proofs.Ytnckhligcdieaaa.Pure
open Go.RowKit Go.Proofs.YtnckhligcdieaaaW.PrintWords Go.Proofs.YtnckhligcdieaaaW.PrintLast Go.Proofs.YtnckhligcdieaaaW.PrintMore Go.Proofs.Ytnckhligcdieaaa.P Go.Proofs.Ytnckhligcdieaaa.Kit
set_option linter.unusedVariables false
set_option linter.unusedSimpArgs false

def B8 (x : Int) : Prop := 0 ≤ x ∧ x ≤ 255
theorem B8.xor (a b : Int) : B8 (Go.bits .xor .u8 a b) := by
  show B8 (IntKind.u8.wrap (((BitVec.ofInt 8 a ^^^ BitVec.ofInt 8 b).toNat : Nat) : Int))
  rw [IntKind.wrap_u8]; unfold B8; omega
theorem xor8 (a b : Nat) (ha : a < 256) (hb : b < 256) : Go.bits .xor .u8 (a : Int) (b : Int) = ((a ^^^ b : Nat) : Int) := by
  show IntKind.u8.wrap (((BitVec.ofInt 8 (a : Int) ^^^ BitVec.ofInt 8 (b : Int)).toNat : Nat) : Int) = _
  have e1 : (BitVec.ofInt 8 (a : Int) ^^^ BitVec.ofInt 8 (b : Int)).toNat = a ^^^ b := by
    rw [BitVec.toNat_xor, BitVec.toNat_ofInt, BitVec.toNat_ofInt]
    congr 1 <;> omega
  rw [e1]
  have : a ^^^ b < 2 ^ 8 := Nat.xor_lt_two_pow ha hb
  rw [IntKind.wrap_u8]
  omega
/-- Numbers of two parts, turned part by part. -/
theorem xor_parts (k a b c d : Nat) (ha : a < 2 ^ k) (hc : c < 2 ^ k) : (a + b * 2 ^ k) ^^^ (c + d * 2 ^ k) = (a ^^^ c) + (b ^^^ d) * 2 ^ k := by
  have hp : 0 < 2 ^ k := Nat.pow_pos (by decide)
  have e1 : (a + b * 2 ^ k) % 2 ^ k = a := by rw [Nat.add_mul_mod_self_right, Nat.mod_eq_of_lt ha]
  have e2 : (c + d * 2 ^ k) % 2 ^ k = c := by rw [Nat.add_mul_mod_self_right, Nat.mod_eq_of_lt hc]
  have e3 : (a + b * 2 ^ k) / 2 ^ k = b := by rw [Nat.add_mul_div_right _ _ hp, Nat.div_eq_of_lt ha, Nat.zero_add]
  have e4 : (c + d * 2 ^ k) / 2 ^ k = d := by rw [Nat.add_mul_div_right _ _ hp, Nat.div_eq_of_lt hc, Nat.zero_add]
  have h := Nat.mod_add_div ((a + b * 2 ^ k) ^^^ (c + d * 2 ^ k)) (2 ^ k)
  rw [Nat.xor_mod_two_pow, Nat.xor_div_two_pow, e1, e2, e3, e4, Nat.mul_comm (2 ^ k)] at h
  exact h.symm
theorem pb_xor (f g : Nat → Int) (hf : ∀ q, 0 ≤ f q ∧ f q ≤ 255) (hg : ∀ q, 0 ≤ g q ∧ g q ≤ 255) : ∀ n, n ≤ 8 → pb (fun q => Go.bits .xor .u8 (f q) (g q)) n = Go.bits .xor .u64 (pb f n) (pb g n)
  | 0, _ => by
    simp only [pb]
    exact (xor_zero 0 ⟨by decide, by decide⟩).symm
  | n + 1, h => by
    have ih := pb_xor f g hf hg n (by omega)
    have a1 := pb_in f hf n
    have a2 := pb_in g hg n
    have b1 := pb_in f hf (n + 1)
    have b2 := pb_in g hg (n + 1)
    have c1 := hf n
    have c2 := hg n
    have hB : 2 ^ (8 * (n + 1)) ≤ 2 ^ 64 := Nat.pow_le_pow_right (by decide) (by omega)
    have hC : 2 ^ (8 * n) ≤ 2 ^ 64 := Nat.pow_le_pow_right (by decide) (by omega)
    simp only [pb] at b1 b2 ⊢
    rw [ih]
    clear ih
    obtain ⟨a, ea⟩ := Int.eq_ofNat_of_zero_le a1.1
    obtain ⟨c, ec⟩ := Int.eq_ofNat_of_zero_le a2.1
    obtain ⟨b, eb⟩ := Int.eq_ofNat_of_zero_le c1.1
    obtain ⟨d, ed⟩ := Int.eq_ofNat_of_zero_le c2.1
    rw [ea, eb] at b1 ⊢
    rw [ec, ed] at b2 ⊢
    rw [ea] at a1
    rw [ec] at a2
    rw [eb] at c1
    rw [ed] at c2
    rw [xor64 a c (by omega) (by omega), xor8 b d (by omega) (by omega), ← Int.natCast_mul, ← Int.natCast_mul, ← Int.natCast_mul, ← Int.natCast_add, ← Int.natCast_add, ← Int.natCast_add, xor64 _ _ ?_ ?_]
    · rw [xor_parts (8 * n) a b c d (by omega) (by omega)]
    · have := b1.2
      rw [← Int.natCast_mul, ← Int.natCast_add] at this
      omega
    · have := b2.2
      rw [← Int.natCast_mul, ← Int.natCast_add] at this
      omega
theorem pb_congr {f g : Nat → Int} : ∀ n, (∀ q, q < n → f q = g q) → pb f n = pb g n
  | 0, _ => rfl
  | n + 1, h => by
    simp only [pb]
    rw [pb_congr n (fun q hq => h q (by omega)), h n (by omega)]
theorem pb_pieces (x : Nat) : ∀ n, pb (fun q => (x : Int) / 2 ^ (8 * q) % 256) n = ((x % 2 ^ (8 * n) : Nat) : Int)
  | 0 => by simp [pb, Nat.mod_one]
  | n + 1 => by
    simp only [pb]
    rw [pb_pieces x n, show (2 : Int) ^ (8 * n) = ((2 ^ (8 * n) : Nat) : Int) by rw [Int.natCast_pow]; rfl, ← Int.natCast_ediv, Nat.mul_add, Nat.pow_add, show 2 ^ (8 * 1) = 256 from rfl, Nat.mod_mul]
    rw [Nat.mul_comm (2 ^ (8 * n)) (x / 2 ^ (8 * n) % 256), Int.natCast_add, Int.natCast_mul]
    rfl
/-- A lane, of its own bytes. -/
theorem pb_laneB (W : List Int) (i : Nat) (h : W64 (rd W (i : Int))) : pb (fun q => laneB W (8 * i + q)) 8 = rd W (i : Int) := by
  obtain ⟨x, hx⟩ := Int.eq_ofNat_of_zero_le h.1
  have h2 := h.2
  rw [hx] at h2
  rw [pb_congr (g := fun q => (x : Int) / 2 ^ (8 * q) % 256) 8 ?_, pb_pieces, hx, Nat.mod_eq_of_lt (by omega)]
  intro q hq
  unfold laneB
  rw [show (8 * i + q) / 8 = i by omega, show (8 * i + q) % 8 = q by omega, hx]
theorem laneB_in (W : List Int) (m : Nat) : B8 (laneB W m) := by unfold laneB B8; omega
theorem bt_rd (L : List Int) (hL : ∀ x ∈ L, B8 x) (j : Nat) (hj : j < L.length) : bt (strOfNums L) (j : Int) = rd L (j : Int) := by
  have h := rd_in hL j hj
  rw [rd_get L j hj] at h ⊢
  have hs : j < (strOfNums L).size := by rw [strOfNums_size]; exact hj
  rw [← bt_at (strOfNums L) (j : Int) (by simpa using hs)]
  simp only [Int.toNat_natCast]
  rw [strOfNums_get L j hs, UInt8.toNat_ofNat']
  unfold B8 at h
  omega
theorem bl_strOf (L : List Int) (hL : ∀ x ∈ L, B8 x) : bl (strOfNums L) = L := by
  apply rd_ext (by rw [bl_len, strOfNums_size])
  intro i hi
  rw [bl_len, strOfNums_size] at hi
  rw [← bt_rd L hL i hi, rd_get _ i (by rw [bl_len, strOfNums_size]; exact hi)]
  have hs : i < (strOfNums L).size := by rw [strOfNums_size]; exact hi
  rw [← bt_at (strOfNums L) (i : Int) (by simpa using hs)]
  simp [bl]
  rfl
theorem textA_in (W : List Int) : ∀ x ∈ textA W 200, B8 x := by
  rw [textA_eq]
  intro x hx
  obtain ⟨m, _, rfl⟩ := List.mem_map.mp hx
  exact laneB_in W m
theorem xorA_rd (st T : List Int) (o i : Nat) : ∀ n, n ≤ st.length → rd (xorA st T o n) (i : Int) = if i < n then Go.bits .xor .u8 (rd st (i : Int)) (rd T ((o + i : Nat) : Int)) else rd st (i : Int)
  | 0, _ => by rw [if_neg (by omega)]; rfl
  | n + 1, h => by
    simp only [xorA]
    rw [rd_set _ _ _ _ (by rw [xorA_len]; omega), xorA_rd st T o i n (by omega)]
    by_cases e : i = n
    · subst e
      rw [if_pos rfl, if_pos (by omega), xorA_rd st T o i i (by omega), if_neg (by omega)]
    · rw [if_neg e]
      by_cases e2 : i < n
      · rw [if_pos e2, if_pos (by omega)]
      · rw [if_neg e2, if_neg (by omega)]
theorem xorW_rd (st ls : List Int) (i : Nat) : ∀ n, n ≤ st.length → rd (xorW st ls n) (i : Int) = if i < n then Go.bits .xor .u64 (rd st (i : Int)) (rd ls (i : Int)) else rd st (i : Int)
  | 0, _ => by rw [if_neg (by omega)]; rfl
  | n + 1, h => by
    simp only [xorW]
    rw [rd_set _ _ _ _ (by rw [xorW_len]; omega), xorW_rd st ls i n (by omega)]
    by_cases e : i = n
    · subst e
      rw [if_pos rfl, if_pos (by omega), xorW_rd st ls i i (by omega), if_neg (by omega)]
    · rw [if_neg e]
      by_cases e2 : i < n
      · rw [if_pos e2, if_pos (by omega)]
      · rw [if_neg e2, if_neg (by omega)]
theorem rd_drop_take (T : List Int) (o n i : Nat) (hi : i < n) (h : o + n ≤ T.length) : rd ((T.drop o).take n) (i : Int) = rd T ((o + i : Nat) : Int) := by
  rw [rd_get _ i (by simp; omega), rd_get _ (o + i) (by omega)]
  simp
theorem block_in (T : List Int) (hT : ∀ x ∈ T, B8 x) (n : Nat) : ∀ x ∈ (T.drop (168 * n)).take 168, B8 x := fun x hx => hT x (List.mem_of_mem_drop (List.mem_of_mem_take hx))
/-- A state turned by a block: byte by byte or lane by lane. -/
theorem block_lanes (W T : List Int) (m : Nat) (hl : W.length = 25) (hw : ∀ x ∈ W, W64 x) (hT : ∀ x ∈ T, B8 x) (hm : 168 * m + 168 ≤ T.length) :
    impl_lanesOf.v (strOfNums (xorA (textA W 200) T (168 * m) 168)) = xorW W ((List.range 21).map (laneV (blockB T m))) 21 := by
  have hY : ∀ x ∈ xorA (textA W 200) T (168 * m) 168, B8 x := by
    refine mem_rd fun i hi => ?_
    rw [xorA_len, textA_len] at hi
    rw [xorA_rd _ _ _ _ 168 (by rw [textA_len]; decide)]
    split
    · exact B8.xor _ _
    · exact rd_in (textA_in W) i (by rw [textA_len]; exact hi)
  have hYl : (xorA (textA W 200) T (168 * m) 168).length = 200 := by rw [xorA_len, textA_len]
  have hbyte : ∀ j : Nat, j < 200 → bt (strOfNums (xorA (textA W 200) T (168 * m) 168)) (j : Int) = if j < 168 then Go.bits .xor .u8 (laneB W j) (rd T ((168 * m + j : Nat) : Int)) else laneB W j := by
    intro j hj
    rw [bt_rd _ hY j (by rw [hYl]; exact hj), xorA_rd _ _ _ _ 168 (by rw [textA_len]; decide), textA_rd W j 200 (Nat.le_refl _), if_pos hj]
  have hblk : ∀ j : Nat, j < 168 → bt (blockB T m) (j : Int) = rd T ((168 * m + j : Nat) : Int) := by
    intro j hj
    unfold blockB
    rw [bt_rd _ (block_in T hT m) j (by simp; omega), rd_drop_take T _ 168 j hj (by omega)]
  rw [lanesOf_eq]
  apply rd_ext (by rw [xorW_len, hl]; rfl)
  intro i hi
  have hi : i < 25 := by simpa using hi
  rw [xorW_rd _ _ _ 21 (by rw [hl]; decide), rd_get ((List.range 25).map _) i (by simpa using hi), List.getElem_map, List.getElem_range]
  have hwi := rd_in hw i (by rw [hl]; exact hi)
  by_cases h : i < 21
  · rw [if_pos h, rd_get ((List.range 21).map (laneV (blockB T m))) i (by simpa using h), List.getElem_map, List.getElem_range]
    unfold laneV
    rw [pb_congr (g := fun q => Go.bits .xor .u8 (laneB W (8 * i + q)) (lb (blockB T m) i q)) 8 ?_, pb_xor (fun q => laneB W (8 * i + q)) (lb (blockB T m) i) (fun q => laneB_in W _) (fun q => bt_in _ _) 8 (Nat.le_refl _), pb_laneB W i hwi]
    intro q hq
    unfold lb
    rw [hbyte _ (by omega), if_pos (by omega), hblk _ (by omega)]
  · unfold laneV
    rw [if_neg h, pb_congr (g := fun q => laneB W (8 * i + q)) 8 ?_, pb_laneB W i hwi]
    intro q hq
    unfold lb
    rw [hbyte _ (by omega), if_neg (by omega)]
/-- The lanes behind m blocks. -/
def stW (T : List Int) : Nat → List Int
  | 0 => List.replicate 25 0
  | m + 1 => impl_permuted.v (xorW (stW T m) ((List.range 21).map (laneV (blockB T m))) 21)
theorem xorW_w (st ls : List Int) (h : ∀ x ∈ st, W64 x) : ∀ n, ∀ x ∈ xorW st ls n, W64 x
  | 0 => h
  | n + 1 => by
    intro x hx
    simp only [xorW] at hx
    rcases List.mem_or_eq_of_mem_set hx with h2 | h2
    · exact xorW_w st ls h n x h2
    · rw [h2]; exact W64.xor _ _
theorem stW_ok (T : List Int) : ∀ m, (stW T m).length = 25 ∧ ∀ x ∈ stW T m, W64 x
  | 0 => ⟨by simp [stW], by
    intro x hx
    simp only [stW] at hx
    rw [List.eq_of_mem_replicate hx]
    exact ⟨by decide, by decide⟩⟩
  | m + 1 => by
    have ih := stW_ok T m
    have h1 : (xorW (stW T m) ((List.range 21).map (laneV (blockB T m))) 21).length = 25 := by rw [xorW_len]; exact ih.1
    have h2 := xorW_w (stW T m) ((List.range 21).map (laneV (blockB T m))) ih.2 21
    simp only [stW]
    generalize xorW (stW T m) ((List.range 21).map (laneV (blockB T m))) 21 = a at h1 h2 ⊢
    exact ⟨permA_len a 24 h1, permuted_w a h2⟩
theorem absS_eq (T : List Int) (hT : ∀ x ∈ T, B8 x) : ∀ m, 168 * m ≤ T.length → absS T m = textA (stW T m) 200
  | 0, _ => by
    simp only [absS, stW]
    apply rd_ext (by rw [textA_len, List.length_replicate])
    intro i hi
    rw [List.length_replicate] at hi
    rw [rd_zeros, textA_rd _ i 200 (Nat.le_refl _), if_pos hi]
    unfold laneB
    rw [rd_zeros]
    simp
  | m + 1, h => by
    simp only [absS, permB]
    rw [absS_eq T hT m (by omega), block_lanes _ T m (stW_ok T m).1 (stW_ok T m).2 hT (by omega)]
    unfold impl_text.v
    rw [bl_strOf _ (textA_in _)]
    rfl
theorem absW_ev (T : List Int) (hT : ∀ x ∈ T, B8 x) : ∀ m, 168 * m ≤ T.length → Ev (fun k => absW k T m) (stW T m)
  | 0, _ => Ev.now _
  | m + 1, h => by
    have hs : (blockB T m).size = 8 * 21 := by
      unfold blockB
      rw [strOfNums_size]
      simp
      omega
    have h1 := stW_ok T m
    have h2 := stW_ok T (m + 1)
    have hl : ((List.range 21).map (laneV (blockB T m))).length = 21 := by simp
    refine Ev.bind (absW_ev T hT m (by omega)) (Ev.bind (lanes_ev (blockB T m) 21 hs (by decide)) (Ev.pos ?_ ?_))
    · rw [hl, h1.1]; decide
    · rw [hl]
      have h3 := perm_ev (xorW (stW T m) ((List.range 21).map (laneV (blockB T m))) 21) (by rw [xorW_len]; exact h1.1) (xorW_w _ _ h1.2 21)
      simp only [stW] at h2 ⊢
      refine Ev.bind h3 (Ev.pos ?_ (Ev.now _))
      rw [h2.1]; decide
theorem padT_in (s : ByteArray) (c : Int) (hc : B8 c) : ∀ x ∈ padT s c, B8 x := by
  intro x hx
  unfold padT lastX at hx
  rcases List.mem_or_eq_of_mem_set hx with h | h
  · unfold padZ at h
    rw [List.mem_append, List.mem_append] at h
    rcases h with (h | h) | h
    · unfold bl at h
      obtain ⟨b, _, rfl⟩ := List.mem_map.mp h
      have := b.toNat_lt
      exact ⟨by omega, by omega⟩
    · rw [List.mem_singleton] at h; rw [h]; exact hc
    · rw [List.eq_of_mem_replicate h]; exact ⟨by decide, by decide⟩
  · rw [h]; exact B8.xor _ _
/-- The state that a text leaves. -/
def absV (s : ByteArray) : ByteArray := strOfNums (absS (padT s 31) ((padT s 31).length / 168))
theorem absV_size (s : ByteArray) : (absV s).size = 200 := by unfold absV; rw [strOfNums_size, absS_len]
theorem spec_absorb_ev (s : ByteArray) (hs : s.size ≤ 1000000000000) : Ev (fun k => spec_l07Absorb.f k s 168 31) (absV s) := by
  have hT := padT_in s 31 ⟨by decide, by decide⟩
  have hm : 168 * ((padT s 31).length / 168) ≤ (padT s 31).length := Nat.mul_div_le _ _
  unfold spec_l07Absorb.f
  refine Ev.pos ⟨rfl, hs⟩ (Ev.bind (absW_ev _ hT _ hm) ?_)
  unfold absV
  rw [absS_eq _ hT _ hm]
  exact text_ev _ (stW_ok _ _).2 (stW_ok _ _).1
theorem impl_absorb_ev (s : ByteArray) (hs : s.size ≤ 1000000000000) : Ev (fun k => impl_absorbed.f k s 168 31) (absV s) := by
  unfold impl_absorbed.f
  exact Ev.pos ⟨rfl, hs⟩ (Ev.now _)
end Go.Proofs.Ytnckhligcdieaaa.Pure
namespace Go.Proofs.Ytnckhligcdieaaa.Pure
open Go.RowKit Go.Proofs.YtnckhligcdieaaaW.PrintWords Go.Proofs.YtnckhligcdieaaaW.PrintLast Go.Proofs.YtnckhligcdieaaaW.PrintMore Go.Proofs.Ytnckhligcdieaaa.P Go.Proofs.Ytnckhligcdieaaa.Kit
set_option linter.unusedVariables false
set_option linter.unusedSimpArgs false

theorem cat_empty (s : ByteArray) : (⟨#[]⟩ : ByteArray) ++ s = s := by
  apply bytes_ext
  simp [ByteArray.data_append]
theorem ext_size (s : ByteArray) (a n : Nat) (h : a + n ≤ s.size) : (s.extract a (a + n)).size = n := by
  rw [ByteArray.size_extract]; omega
theorem spec_take_in (s : ByteArray) (a n : Nat) (hs : s.size = 200) (hn : 0 < n) (h : a + n ≤ 168) : Ev (fun k => spec_StreamTake.f k s (a : Int) (n : Int)) (s, ((a + n : Nat) : Int), s.extract a (a + n)) := by
  unfold spec_StreamTake.f
  refine Ev.pos ⟨by omega, by omega, hs, by omega, by omega⟩ ?_
  rw [Int.toNat_natCast, Int.toNat_natCast]
  have hx := ext_size s a n (by omega)
  refine Ev.step (f := fun k => spec_StreamTake.l0 k n (s.extract a (a + n)) s (a + n)) (fun k => ?_) ?_
  · simp only [spec_StreamTake.l0]
    have e0 : (⟨#[]⟩ : ByteArray).size = 0 := rfl
    rw [if_pos (by rw [e0]; exact hn), if_neg (by omega), if_pos ⟨by omega, hs⟩, e0, Nat.sub_zero, Nat.min_eq_right (by omega), cat_empty]
  · refine Ev.step (f := fun _ => some (s, ((a + n : Nat) : Int), s.extract a (a + n))) (fun k => ?_) (Ev.now _)
    simp only [spec_StreamTake.l0]
    rw [if_neg (by omega)]
theorem spec_take_new (s : ByteArray) (n : Nat) (hs : s.size = 200) (hn : 0 < n) (h : n ≤ 168) : Ev (fun k => spec_StreamTake.f k s 168 (n : Int)) (permB s, (n : Int), (permB s).extract 0 n) := by
  unfold spec_StreamTake.f
  refine Ev.pos ⟨by omega, by omega, hs, by omega, by omega⟩ ?_
  rw [Int.toNat_natCast]
  have hp := permB_size s
  have hx := ext_size (permB s) 0 n (by omega)
  rw [Nat.zero_add] at hx
  refine Ev.step (f := fun k => (spec_Permute.f k s).bind fun t => if t.size = 200 then spec_StreamTake.l0 k n (t.extract 0 n) t n else none) (fun k => ?_) (Ev.bind (permute_ev s hs) (Ev.pos hp ?_))
  · simp only [spec_StreamTake.l0]
    have e0 : (⟨#[]⟩ : ByteArray).size = 0 := rfl
    rw [if_pos (by rw [e0]; exact hn), if_pos (by decide), e0, Nat.sub_zero, Nat.min_eq_right (by omega)]
    simp only [cat_empty]
  · refine Ev.step (f := fun _ => some (permB s, (n : Int), (permB s).extract 0 n)) (fun k => ?_) (Ev.now _)
    simp only [spec_StreamTake.l0]
    rw [if_neg (by omega)]
theorem impl_take_open (s : ByteArray) (a n : Nat) (r : ByteArray × Int × ByteArray) (hs : s.size = 200) (hn : n ≤ 168) (ha : a ≤ 168) (h : Ev (fun k => impl_StreamTake.l0 k (n : Int) (⟨#[]⟩ : ByteArray) s (a : Int)) r) : Ev (fun k => impl_StreamTake.f k s (a : Int) (n : Int)) r := by
  unfold impl_StreamTake.f
  have e1 : impl_in.f (n : Int) 0 4000 = some true := (some_in _ _ _).trans (by rw [decide_eq_true]; omega)
  have e2 : impl_in.f (a : Int) 0 168 = some true := (some_in _ _ _).trans (by rw [decide_eq_true]; omega)
  refine Ev.then e1 (Ev.pos rfl (Ev.pos (by omega) (Ev.then e2 ?_)))
  refine Ev.step (fun k => ?_) h
  simp only [impl_StreamTake.j0]
  rw [if_neg (by decide)]
theorem impl_take_in (s : ByteArray) (a n : Nat) (hs : s.size = 200) (hn : 0 < n) (h : a + n ≤ 168) : Ev (fun k => impl_StreamTake.f k s (a : Int) (n : Int)) (s, ((a + n : Nat) : Int), s.extract a (a + n)) := by
  refine impl_take_open s a n _ hs (by omega) (by omega) ?_
  have hx := ext_size s a n (by omega)
  have e0 : (⟨#[]⟩ : ByteArray).size = 0 := rfl
  have e1 : wrap64 ((n : Int) - ((⟨#[]⟩ : ByteArray).size : Int)) = (n : Int) := by rw [e0, w64 (by omega) (by omega)]; omega
  have e2 : wrap64 (168 - (a : Int)) = ((168 - a : Nat) : Int) := by rw [w64 (by omega) (by omega)]; omega
  have e3 : mn (n : Int) ((168 - a : Nat) : Int) = (n : Int) := by unfold mn; rw [if_neg (by omega)]
  have e4 : wrap64 ((a : Int) + (n : Int)) = ((a + n : Nat) : Int) := by rw [w64 (by omega) (by omega)]; omega
  refine Ev.step (f := fun k => impl_StreamTake.l0 k (n : Int) (s.extract a (a + n)) s ((a + n : Nat) : Int)) (fun k => ?_) ?_
  · simp only [impl_StreamTake.l0, e1, e2, e3, e4]
    rw [if_pos (by rw [e0]; omega), if_neg (by omega), if_pos (by omega), if_pos (by omega), if_pos (by omega), Int.toNat_natCast, Int.toNat_natCast, if_pos (by rw [e0, hx]; omega), cat_empty]
  · refine Ev.step (f := fun _ => some (s, ((a + n : Nat) : Int), s.extract a (a + n))) (fun k => ?_) (Ev.now _)
    simp only [impl_StreamTake.l0]
    rw [if_neg (by omega)]
theorem impl_take_new (s : ByteArray) (n : Nat) (hs : s.size = 200) (hn : 0 < n) (h : n ≤ 168) : Ev (fun k => impl_StreamTake.f k s 168 (n : Int)) (permB s, (n : Int), (permB s).extract 0 n) := by
  refine impl_take_open s 168 n _ hs (by omega) (by omega) ?_
  have hp := permB_size s
  have hx := ext_size (permB s) 0 n (by omega)
  rw [Nat.zero_add] at hx
  have e0 : (⟨#[]⟩ : ByteArray).size = 0 := rfl
  have e1 : wrap64 ((n : Int) - ((⟨#[]⟩ : ByteArray).size : Int)) = (n : Int) := by rw [e0, w64 (by omega) (by omega)]; omega
  have e3 : mn (n : Int) 168 = (n : Int) := by unfold mn; rw [if_neg (by omega)]
  have e4 : wrap64 (0 + (n : Int)) = (n : Int) := by rw [w64 (by omega) (by omega)]; omega
  refine Ev.step (f := fun k => impl_StreamTake.l0 k (n : Int) ((permB s).extract 0 n) (permB s) (n : Int)) (fun k => ?_) ?_
  · simp only [impl_StreamTake.l0, e1, e3, e4, permB_f s hs, Option.bind_some]
    rw [if_pos (by rw [e0]; omega), if_pos (by rfl), if_pos (by omega), if_pos (by omega), Int.toNat_natCast, if_pos (by rw [e0, hx]; omega), cat_empty]
  · refine Ev.step (f := fun _ => some (permB s, (n : Int), (permB s).extract 0 n)) (fun k => ?_) (Ev.now _)
    simp only [impl_StreamTake.l0]
    rw [if_neg (by omega)]
theorem spec_new_ev (s : ByteArray) (hs : s.size ≤ 1000000000000) : Ev (fun k => spec_StreamNew.f k s) (absV s, 0) := by
  unfold spec_StreamNew.f
  exact Ev.bind (spec_absorb_ev s hs) (Ev.now _)
theorem impl_new_ev (s : ByteArray) (hs : s.size ≤ 1000000000000) : Ev (fun k => impl_StreamNew.f k s) (absV s, 0) := by
  unfold impl_StreamNew.f
  exact Ev.bind (impl_absorb_ev s hs) (Ev.now _)
/-- The first n bytes that a text gives. -/
def shakeV (s : ByteArray) (n : Nat) : ByteArray := (absV s).extract 0 n
theorem spec_shake_ev (s : ByteArray) (hs : s.size ≤ 1000000000000) : Ev (fun k => spec_ShakeOf.f k s 128) (shakeV s 128, true) := by
  unfold spec_ShakeOf.f
  have h := spec_take_in (absV s) 0 128 (absV_size s) (by decide) (by decide)
  have e1 : spec_l01In.f 128 0 4000 = some true := by rfl
  exact Ev.then e1 (Ev.pos rfl (Ev.bind (spec_new_ev s hs) (Ev.bind h (Ev.now _))))
theorem impl_shake_ev (s : ByteArray) (hs : s.size ≤ 1000000000000) : Ev (fun k => impl_ShakeOf.f k s 128) (shakeV s 128, true) := by
  unfold impl_ShakeOf.f
  have h := impl_take_in (absV s) 0 128 (absV_size s) (by decide) (by decide)
  have e1 : impl_in.f 128 0 4000 = some true := by rfl
  exact Ev.then e1 (Ev.pos rfl (Ev.bind (impl_new_ev s hs) (Ev.bind h (Ev.now _))))
end Go.Proofs.Ytnckhligcdieaaa.Pure
namespace Go.Proofs.Ytnckhligcdieaaa.Pure
open Go.RowKit Go.Proofs.YtnckhligcdieaaaW.PrintWords Go.Proofs.YtnckhligcdieaaaW.PrintLast Go.Proofs.YtnckhligcdieaaaW.PrintMore Go.Proofs.Ytnckhligcdieaaa.P Go.Proofs.Ytnckhligcdieaaa.Kit
set_option linter.unusedVariables false
set_option linter.unusedSimpArgs false

def oneB (n : Int) : ByteArray := strOfNums [n % 256]
theorem oneB_size (n : Int) : (oneB n).size = 1 := by simp [oneB, strOfNums_size]
theorem oneB_impl (n : Int) : impl_oneByte.f n = some (oneB n) := rfl
theorem oneB_spec (n : Int) : spec_l06Byte.f n = some (oneB n) := by
  have h := Int.mul_tdiv_add_tmod n 256
  have h1 := Int.tmod_lt_of_pos n (show (0 : Int) < 256 by decide)
  have h2 := Int.lt_tmod_of_pos n (show (0 : Int) < 256 by decide)
  have h3 : (Int.tmod n 256) % 256 = n % 256 := by omega
  unfold spec_l06Byte.f oneB
  split
  · rw [w64 (by omega) (by omega), show (Int.tmod n 256 + 256) % 256 = n % 256 by omega]
  · rw [h3]
/-- A coefficient of four bits. -/
def cb (v : Int) : Int := (v % 2 + v / 2 % 2 - v / 4 % 2 - v / 8 % 2 + 3329) % 3329
theorem cb_hi (b : Int) (h0 : 0 ≤ b) (h1 : b ≤ 255) : Int.tmod (wrap64 ((wrap64 ((wrap64 ((wrap64 ((Int.tmod (wrap64 (Int.tdiv (wrap64 b) 16)) 2) + (Int.tmod (wrap64 (Int.tdiv (wrap64 (Int.tdiv (wrap64 b) 16)) 2)) 2))) - (Int.tmod (wrap64 (Int.tdiv (wrap64 (Int.tdiv (wrap64 b) 16)) 4)) 2))) - (Int.tmod (wrap64 (Int.tdiv (wrap64 (Int.tdiv (wrap64 b) 16)) 8)) 2))) + 3329)) 3329 = cb (b / 16) := by
  have h : ((List.range 256).all fun n : Nat => decide (Int.tmod (wrap64 ((wrap64 ((wrap64 ((wrap64 ((Int.tmod (wrap64 (Int.tdiv (wrap64 (n : Int)) 16)) 2) + (Int.tmod (wrap64 (Int.tdiv (wrap64 (Int.tdiv (wrap64 (n : Int)) 16)) 2)) 2))) - (Int.tmod (wrap64 (Int.tdiv (wrap64 (Int.tdiv (wrap64 (n : Int)) 16)) 4)) 2))) - (Int.tmod (wrap64 (Int.tdiv (wrap64 (Int.tdiv (wrap64 (n : Int)) 16)) 8)) 2))) + 3329)) 3329 = cb ((n : Int) / 16))) = true := by kernel_rfl
  obtain ⟨n, rfl⟩ := Int.eq_ofNat_of_zero_le h0
  exact of_decide_eq_true (List.all_eq_true.mp h n (List.mem_range.mpr (by omega)))
theorem cb_lo (b : Int) (h0 : 0 ≤ b) (h1 : b ≤ 255) : Int.tmod (wrap64 ((wrap64 ((wrap64 ((wrap64 ((Int.tmod (wrap64 b) 2) + (Int.tmod (wrap64 (Int.tdiv (wrap64 b) 2)) 2))) - (Int.tmod (wrap64 (Int.tdiv (wrap64 b) 4)) 2))) - (Int.tmod (wrap64 (Int.tdiv (wrap64 b) 8)) 2))) + 3329)) 3329 = cb b := by
  have h : ((List.range 256).all fun n : Nat => decide (Int.tmod (wrap64 ((wrap64 ((wrap64 ((wrap64 ((Int.tmod (wrap64 (n : Int)) 2) + (Int.tmod (wrap64 (Int.tdiv (wrap64 (n : Int)) 2)) 2))) - (Int.tmod (wrap64 (Int.tdiv (wrap64 (n : Int)) 4)) 2))) - (Int.tmod (wrap64 (Int.tdiv (wrap64 (n : Int)) 8)) 2))) + 3329)) 3329 = cb (n : Int))) = true := by kernel_rfl
  obtain ⟨n, rfl⟩ := Int.eq_ofNat_of_zero_le h0
  exact of_decide_eq_true (List.all_eq_true.mp h n (List.mem_range.mpr (by omega)))
theorem cb_impl (b : Int) (m : Nat) (h0 : 0 ≤ b) (h1 : b ≤ 255) (hm : m < 2) : impl_modQ.f (wrap64 ((wrap64 ((wrap64 ((Go.bits .and .i64 (wrap64 (shr .u8 b (wrap64 (4 * (m : Int))))) 1) + (Go.bits .and .i64 ((wrap64 (shr .u8 b (wrap64 (4 * (m : Int))))) / 2) 1))) - (Go.bits .and .i64 ((wrap64 (shr .u8 b (wrap64 (4 * (m : Int))))) / 4) 1))) - (Go.bits .and .i64 ((wrap64 (shr .u8 b (wrap64 (4 * (m : Int))))) / 8) 1))) = some (cb (if m = 1 then b / 16 else b)) := by
  have h : ((List.range 256).all fun n : Nat => (List.range 2).all fun m : Nat => decide (impl_modQ.f (wrap64 ((wrap64 ((wrap64 ((Go.bits .and .i64 (wrap64 (shr .u8 (n : Int) (wrap64 (4 * (m : Int))))) 1) + (Go.bits .and .i64 ((wrap64 (shr .u8 (n : Int) (wrap64 (4 * (m : Int))))) / 2) 1))) - (Go.bits .and .i64 ((wrap64 (shr .u8 (n : Int) (wrap64 (4 * (m : Int))))) / 4) 1))) - (Go.bits .and .i64 ((wrap64 (shr .u8 (n : Int) (wrap64 (4 * (m : Int))))) / 8) 1))) = some (cb (if m = 1 then (n : Int) / 16 else (n : Int))))) = true := by kernel_rfl
  obtain ⟨n, rfl⟩ := Int.eq_ofNat_of_zero_le h0
  exact of_decide_eq_true (List.all_eq_true.mp (List.all_eq_true.mp h n (List.mem_range.mpr (by omega))) m (List.mem_range.mpr hm))
/-- The coefficient i of the bytes t. -/
def cbAt (t : ByteArray) (i : Nat) : Int := cb (if i % 2 = 1 then bt t ((i / 2 : Nat) : Int) / 16 else bt t ((i / 2 : Nat) : Int))
def smallL (t : ByteArray) : List Int := (List.range 256).map (cbAt t)
theorem smallL_len (t : ByteArray) : (smallL t).length = 256 := by unfold smallL; simp
theorem smallL_get (t : ByteArray) (i : Nat) (h : i < (smallL t).length) : (smallL t)[i] = cbAt t i := by
  simp only [smallL, List.getElem_map, List.getElem_range]
theorem spec_small_loop (t : ByteArray) (ht : t.size = 128) : Ev (fun k => spec_Small.l0 k ([] : List Int) t 0) (smallL t) := by
  have hl := smallL_len t
  refine Ev.up (g := fun i k => spec_Small.l0 k ((smallL t).take i) t (i : Int)) 256 ?_ ?_ 0 (Nat.zero_le _)
  · intro i hi hh
    have hv := smallL_get t i (by omega)
    rw [← take_snoc (smallL t) i (by omega), hv] at hh
    refine Ev.step (fun k => ?_) hh
    have e1 : wrap64 (Int.tdiv (i : Int) 2) = ((i / 2 : Nat) : Int) := by rw [Int.tdiv_eq_ediv_of_nonneg (by omega), w64 (by omega) (by omega)]; omega
    have hb := bt_range t ((i / 2 : Nat) : Int)
    have hlen : ((smallL t).take i).length = i := by rw [List.length_take, hl]; omega
    have e2 : Int.tmod (i : Int) 2 = ((i % 2 : Nat) : Int) := by rw [Int.tmod_eq_emod_of_nonneg (by omega)]; omega
    unfold cbAt
    simp only [spec_Small.l0, e1, e2]
    rw [if_pos (by omega), if_pos (by omega), if_pos (by omega)]
    by_cases hp : i % 2 = 1
    · rw [if_pos (by omega), if_pos hp, if_pos (by omega), cb_hi _ (by omega) (by omega), w64s i (by omega)]
    · rw [if_neg (by omega), if_neg hp, if_pos (by omega), cb_lo _ (by omega) (by omega), w64s i (by omega)]
  · refine Ev.step (f := fun _ => some (smallL t)) (fun k => ?_) (Ev.now _)
    simp only [spec_Small.l0]
    rw [if_neg (by omega), List.take_of_length_le (by omega)]
theorem impl_small_loop (t : ByteArray) (ht : t.size = 128) : Ev (fun k => impl_Small.l0 k t (List.replicate 256 0) 256 0) (smallL t) := by
  have hl := smallL_len t
  have e0 : (smallL t).take 0 ++ List.replicate ((smallL t).length - 0) 0 = List.replicate 256 0 := by rw [hl, List.take_zero, List.nil_append, Nat.sub_zero]
  rw [← e0]
  refine Ev.up (g := fun i k => impl_Small.l0 k t ((smallL t).take i ++ List.replicate ((smallL t).length - i) 0) 256 (i : Int)) 256 ?_ ?_ 0 (Nat.zero_le _)
  · intro i hi hh
    have hv := smallL_get t i (by omega)
    rw [← set_fill (smallL t) 0 i (by omega), hv] at hh
    refine Ev.step (fun k => ?_) hh
    have e1 : wrap64 (Int.tdiv (i : Int) 2) = ((i / 2 : Nat) : Int) := by rw [Int.tdiv_eq_ediv_of_nonneg (by omega), w64 (by omega) (by omega)]; omega
    have hb := bt_range t ((i / 2 : Nat) : Int)
    have hlen : ((smallL t).take i ++ List.replicate ((smallL t).length - i) 0).length = 256 := by rw [List.length_append, List.length_take, List.length_replicate, hl]; omega
    have e2 : Int.tmod (i : Int) 2 = ((i % 2 : Nat) : Int) := by rw [Int.tmod_eq_emod_of_nonneg (by omega)]; omega
    have e3 := cb_impl (bt t ((i / 2 : Nat) : Int)) (i % 2) (by omega) (by omega) (by omega)
    have c1 : (i : Int) < 256 := by omega
    have c2 : (0 : Int) ≤ ((i / 2 : Nat) : Int) := by omega
    have c3 : ((i / 2 : Nat) : Int) < (t.size : Int) := by omega
    have c4 : 0 ≤ wrap64 (4 * ((i % 2 : Nat) : Int)) := by rw [w64 (by omega) (by omega)]; omega
    have c5 : (0 : Int) ≤ (i : Int) := by omega
    have c6 : (i : Int) < (((smallL t).take i ++ List.replicate ((smallL t).length - i) 0).length : Int) := by rw [hlen]; omega
    have c7 := w64s i (by omega)
    unfold cbAt
    simp only [impl_Small.l0, e1, e2]
    rw [if_pos c1, if_pos c2, if_pos c3, if_pos c4, e3, Option.bind_some, if_pos c5, if_pos c6, c7, Int.toNat_natCast]
  · refine Ev.step (f := fun _ => some (smallL t)) (fun k => ?_) (Ev.now _)
    simp only [impl_Small.l0]
    rw [if_neg (by omega), List.take_of_length_le (by omega), hl, Nat.sub_self, List.replicate_zero, List.append_nil]
def smallV (s : ByteArray) (n : Int) : List Int := smallL (shakeV (s ++ oneB n) 128)
theorem smallV_len (s : ByteArray) (n : Int) : (smallV s n).length = 256 := smallL_len _
theorem shake_size (s : ByteArray) : (shakeV s 128).size = 128 := by
  unfold shakeV
  rw [ByteArray.size_extract, absV_size]
  omega
theorem spec_Small_ev (s : ByteArray) (n : Int) (hs : s.size ≤ 1048576) : Ev (fun k => spec_Small.f k s n) (smallV s n) := by
  unfold spec_Small.f
  have h1 := oneB_size n
  exact Ev.then (oneB_spec n) (Ev.pos (by omega) (Ev.bind (spec_shake_ev _ (by rw [ByteArray.size_append]; omega)) (spec_small_loop _ (shake_size _))))
theorem impl_Small_ev (s : ByteArray) (n : Int) (hs : s.size ≤ 1048576) : Ev (fun k => impl_Small.f k s n) (smallV s n) := by
  unfold impl_Small.f
  have h1 := oneB_size n
  refine Ev.then (oneB_impl n) (Ev.pos (by omega) (Ev.bind (impl_shake_ev _ (by rw [ByteArray.size_append]; omega)) (Ev.pos (by decide) (Ev.then (a := List.replicate 256 0) rfl ?_))))
  rw [List.length_replicate]
  exact impl_small_loop _ (shake_size _)
end Go.Proofs.Ytnckhligcdieaaa.Pure
namespace Go.Proofs.Ytnckhligcdieaaa.Pure
open Go.RowKit Go.Proofs.YtnckhligcdieaaaW.PrintWords Go.Proofs.YtnckhligcdieaaaW.PrintLast Go.Proofs.YtnckhligcdieaaaW.PrintMore Go.Proofs.Ytnckhligcdieaaa.P Go.Proofs.Ytnckhligcdieaaa.Kit
set_option linter.unusedVariables false
set_option linter.unusedSimpArgs false

/-- A number taken in, where it is small enough and there is room. -/
def put (l : List Int) (v : Int) : List Int := if v < 3329 ∧ l.length < 256 then l ++ [v] else l
theorem put_len (l : List Int) (v : Int) (h : l.length ≤ 256) : (put l v).length ≤ 256 := by
  unfold put
  split
  · rw [List.length_append, List.length_singleton]; omega
  · exact h
def lowV (b0 b1 : Int) : Int := b0 + 256 * (b1 % 16)
def highV (b1 b2 : Int) : Int := b1 / 16 + 16 * b2
/-- Three bytes taken in. -/
def take3 (l : List Int) (b0 b1 b2 : Int) : List Int := put (put l (lowV b0 b1)) (highV b1 b2)
theorem take3_len (l : List Int) (b0 b1 b2 : Int) (h : l.length ≤ 256) : (take3 l b0 b1 b2).length ≤ 256 := put_len _ _ (put_len _ _ h)
/-- The state of block m of the stream. -/
def blkS (s : ByteArray) : Nat → ByteArray
  | 0 => s
  | m + 1 => permB (blkS s m)
theorem blkS_size (s : ByteArray) (hs : s.size = 200) : ∀ m, (blkS s m).size = 200
  | 0 => hs
  | m + 1 => permB_size _
/-- Byte q of the round i. -/
def rb (s : ByteArray) (i q : Nat) : Int := bt (blkS s (i / 56)) ((3 * (i % 56) + q : Nat) : Int)
def roundU (s : ByteArray) (l : List Int) (i : Nat) : List Int := take3 l (rb s i 0) (rb s i 1) (rb s i 2)
theorem roundU_len (s : ByteArray) (l : List Int) (i : Nat) (h : l.length ≤ 256) : (roundU s l i).length ≤ 256 := take3_len _ _ _ _ h
/-- What n rounds more make, i of them gone. -/
def goU (s : ByteArray) : Nat → List Int → Nat → List Int
  | 0, l, i => l
  | n + 1, l, i => if l.length < 256 then goU s n (roundU s l i) (i + 1) else l
def uniL (s : ByteArray) : List Int := goU s 4000 [] 0
theorem goU_len (s : ByteArray) : ∀ n l i, l.length ≤ 256 → (goU s n l i).length ≤ 256
  | 0, l, i, h => h
  | n + 1, l, i, h => by
    simp only [goU]
    split
    · exact goU_len s n _ _ (roundU_len s l i h)
    · exact h
def fill (l : List Int) : List Int := l ++ List.replicate (256 - l.length) 0
theorem fill_len (l : List Int) (h : l.length ≤ 256) : (fill l).length = 256 := by
  unfold fill
  rw [List.length_append, List.length_replicate]; omega
theorem bt_ext (s : ByteArray) (a n j : Nat) (h : a + n ≤ s.size) (hj : j < n) : bt (s.extract a (a + n)) (j : Int) = bt s ((a + j : Nat) : Int) := by
  have hs : j < (s.extract a (a + n)).size := by rw [ext_size s a n h]; exact hj
  rw [← bt_at (s.extract a (a + n)) (j : Int) (by simpa using hs), ← bt_at s ((a + j : Nat) : Int) (by simp; omega)]
  simp only [Int.toNat_natCast]
  rw [ByteArray.getElem_extract]
/-- The reference fills up with zeros. -/
theorem spec_fill (l : List Int) (h : l.length ≤ 256) : Ev (fun k => spec_Uniform.l1 k l) (fill l) := by
  obtain ⟨d, hd⟩ : ∃ d, d = 256 - l.length := ⟨_, rfl⟩
  induction d generalizing l with
  | zero =>
    refine Ev.step (f := fun _ => some (fill l)) (fun k => ?_) (Ev.now _)
    simp only [spec_Uniform.l1]
    rw [if_neg (by omega)]
    unfold fill
    rw [← hd, List.replicate_zero, List.append_nil]
  | succ d ih =>
    have h1 := ih (l ++ [0]) (by rw [List.length_append, List.length_singleton]; omega) (by rw [List.length_append, List.length_singleton]; omega)
    have e : fill (l ++ [0]) = fill l := by
      unfold fill
      rw [List.length_append, List.length_singleton, show 256 - l.length = 256 - (l.length + 1) + 1 by omega, List.replicate_succ, List.append_assoc]
      rfl
    rw [e] at h1
    refine Ev.step (fun k => ?_) h1
    simp only [spec_Uniform.l1]
    rw [if_pos (by omega), if_pos (by omega)]
theorem low_spec (b0 b1 : Int) (h0 : 0 ≤ b0 ∧ b0 ≤ 255) (h1 : 0 ≤ b1 ∧ b1 ≤ 255) : wrap64 ((wrap64 b0) + (wrap64 (256 * (Int.tmod (wrap64 b1) 16)))) = lowV b0 b1 := by
  have e0 : wrap64 b0 = b0 := w64 (by omega) (by omega)
  have e1 : wrap64 b1 = b1 := w64 (by omega) (by omega)
  rw [e0, e1, Int.tmod_eq_emod_of_nonneg h1.1]
  have e2 : wrap64 (256 * (b1 % 16)) = 256 * (b1 % 16) := w64 (by omega) (by omega)
  rw [e2]
  exact w64 (by omega) (by omega)
theorem high_spec (b1 b2 : Int) (h1 : 0 ≤ b1 ∧ b1 ≤ 255) (h2 : 0 ≤ b2 ∧ b2 ≤ 255) : wrap64 ((wrap64 (Int.tdiv (wrap64 b1) 16)) + (wrap64 (16 * (wrap64 b2)))) = highV b1 b2 := by
  have e0 : wrap64 b2 = b2 := w64 (by omega) (by omega)
  have e1 : wrap64 b1 = b1 := w64 (by omega) (by omega)
  rw [e0, e1, Int.tdiv_eq_ediv_of_nonneg h1.1]
  have e2 : wrap64 (16 * b2) = 16 * b2 := w64 (by omega) (by omega)
  have e3 : wrap64 (b1 / 16) = b1 / 16 := w64 (by omega) (by omega)
  rw [e2, e3]
  exact w64 (by omega) (by omega)
theorem low_impl (b0 b1 : Int) (h0 : 0 ≤ b0 ∧ b0 ≤ 255) (h1 : 0 ≤ b1 ∧ b1 ≤ 255) : wrap64 ((wrap64 b0) + (wrap64 ((Int.tmod (wrap64 b1) 16) * 256))) = lowV b0 b1 := by
  rw [← low_spec b0 b1 h0 h1, Int.mul_comm]

theorem put_in (l : List Int) (v : Int) (h1 : v < 3329) (h2 : l.length < 256) : put l v = l ++ [v] := if_pos ⟨h1, h2⟩
theorem put_out (l : List Int) (v : Int) (h : ¬ (v < 3329 ∧ l.length < 256)) : put l v = l := if_neg h
/-- Where the reference stands ahead of round i. -/
def StS (s : ByteArray) (i : Nat) (x9 str : ByteArray) (at_ : Int) : Prop :=
  (i % 56 ≠ 0 ∧ x9 = (blkS s (i / 56)).extract 0 168 ∧ str = blkS s (i / 56) ∧ at_ = 168) ∨ (i = 0 ∧ str = s ∧ at_ = 0) ∨ (i % 56 = 0 ∧ 0 < i ∧ str = blkS s (i / 56 - 1) ∧ at_ = 168)
theorem StS.next (s : ByteArray) (i : Nat) : StS s (i + 1) ((blkS s (i / 56)).extract 0 168) (blkS s (i / 56)) 168 := by
  unfold StS
  by_cases h : (i + 1) % 56 = 0
  · exact Or.inr (Or.inr ⟨h, by omega, by rw [show (i + 1) / 56 - 1 = i / 56 by omega], rfl⟩)
  · exact Or.inl ⟨h, by rw [show (i + 1) / 56 = i / 56 by omega], by rw [show (i + 1) / 56 = i / 56 by omega], rfl⟩
theorem spec_three (k : Nat) (s : ByteArray) (hs : s.size = 200) (l : List Int) (hl : l.length < 256) (i : Nat) (hi : i < 4000) : spec_Uniform.j2 (k + 1) l ((blkS s (i / 56)).extract 0 168) (i : Int) ((3 * (i % 56) : Nat) : Int) (blkS s (i / 56)) 168 = spec_Uniform.l0 k (roundU s l i) ((blkS s (i / 56)).extract 0 168) ((i + 1 : Nat) : Int) (blkS s (i / 56)) 168 := by
  have hB := blkS_size s hs (i / 56)
  have hz : ((blkS s (i / 56)).extract 0 168).size = 168 := by rw [ByteArray.size_extract]; omega
  have w1 : wrap64 (((3 * (i % 56) : Nat) : Int) + 1) = ((3 * (i % 56) + 1 : Nat) : Int) := by rw [w64 (by omega) (by omega)]; rfl
  have w2 : wrap64 (((3 * (i % 56) : Nat) : Int) + 2) = ((3 * (i % 56) + 2 : Nat) : Int) := by rw [w64 (by omega) (by omega)]; rfl
  have w3 := w64s i (by omega)
  have c1 : (0 : Int) ≤ ((3 * (i % 56) : Nat) : Int) := by omega
  have c2 : ((3 * (i % 56) : Nat) : Int) < (((blkS s (i / 56)).extract 0 168).size : Int) := by rw [hz]; omega
  have c3 : (0 : Int) ≤ ((3 * (i % 56) + 1 : Nat) : Int) := by omega
  have c4 : ((3 * (i % 56) + 1 : Nat) : Int) < (((blkS s (i / 56)).extract 0 168).size : Int) := by rw [hz]; omega
  have c5 : (0 : Int) ≤ ((3 * (i % 56) + 2 : Nat) : Int) := by omega
  have c6 : ((3 * (i % 56) + 2 : Nat) : Int) < (((blkS s (i / 56)).extract 0 168).size : Int) := by rw [hz]; omega
  have c7 : l.length < 17592186044416 := by omega
  have c8 : (l.length : Int) < 256 := by omega
  have hb : ∀ q, q < 3 → bt ((blkS s (i / 56)).extract 0 168) ((3 * (i % 56) + q : Nat) : Int) = rb s i q := by
    intro q hq
    have := bt_ext (blkS s (i / 56)) 0 168 (3 * (i % 56) + q) (by omega) (by omega)
    rw [Nat.zero_add, Nat.zero_add] at this
    exact this
  have r0 : 0 ≤ rb s i 0 ∧ rb s i 0 ≤ 255 := bt_in _ _
  have r1 : 0 ≤ rb s i 1 ∧ rb s i 1 ≤ 255 := bt_in _ _
  have r2 : 0 ≤ rb s i 2 ∧ rb s i 2 ≤ 255 := bt_in _ _
  have e0 : bt ((blkS s (i / 56)).extract 0 168) ((3 * (i % 56) : Nat) : Int) = rb s i 0 := hb 0 (by decide)
  have e1 := hb 1 (by decide)
  have e2 := hb 2 (by decide)
  simp only [spec_Uniform.j2, w1, w2, w3, e0, e1, e2]
  rw [if_pos c1, if_pos c2, if_pos c3, if_pos c4, if_pos c5, if_pos c6, low_spec _ _ r0 r1, high_spec _ _ r1 r2]
  clear e0 e1 e2 r0 r1 r2 hb w1 w2 w3 c1 c2 c3 c4 c5 c6 hz hB
  unfold roundU take3
  generalize lowV (rb s i 0) (rb s i 1) = v
  generalize highV (rb s i 1) (rb s i 2) = u
  by_cases hv : v < 3329
  · rw [if_pos hv, if_pos c7, put_in l v hv hl, Option.bind_some]
    by_cases hu : u < 3329
    · rw [if_pos hu]
      by_cases hq : (l ++ [v]).length < 256
      · rw [if_pos (by omega), if_pos (by omega), put_in _ u hu hq]
      · rw [if_neg (by omega), put_out _ u (by omega)]
    · rw [if_neg hu, put_out _ u (by omega)]
  · rw [if_neg hv, put_out l v (by omega)]
    by_cases hu : u < 3329
    · rw [if_pos hu, if_pos c8, if_pos c7, put_in _ u hu hl]
    · rw [if_neg hu, put_out _ u (by omega)]
theorem spec_round (s : ByteArray) (hs : s.size = 200) (l : List Int) (hl : l.length < 256) (i : Nat) (hi : i < 4000) (x9 str : ByteArray) (a : Int) (h : StS s i x9 str a) (r : List Int)
    (hr : Ev (fun k => spec_Uniform.l0 k (roundU s l i) ((blkS s (i / 56)).extract 0 168) ((i + 1 : Nat) : Int) (blkS s (i / 56)) 168) r) : Ev (fun k => spec_Uniform.j1 k l x9 (i : Int) true str a) r := by
  have e1 : wrap64 (Int.tmod (i : Int) 56 * 3) = ((3 * (i % 56) : Nat) : Int) := by
    rw [Int.tmod_eq_emod_of_nonneg (by omega), w64 (by omega) (by omega)]; omega
  have h3 : Ev (fun k => spec_Uniform.j2 k l ((blkS s (i / 56)).extract 0 168) (i : Int) ((3 * (i % 56) : Nat) : Int) (blkS s (i / 56)) 168) r := Ev.step (fun k => spec_three k s hs l hl i hi) hr
  rcases h with ⟨h1, rfl, rfl, rfl⟩ | h
  · refine Ev.step (fun k => ?_) h3
    simp only [spec_Uniform.j1, e1]
    rw [if_pos trivial, if_neg (by omega)]
  · have hz : i % 56 = 0 := by omega
    have ht : Ev (fun k => spec_StreamTake.f k str a 168) (blkS s (i / 56), 168, (blkS s (i / 56)).extract 0 168) := by
      rcases h with ⟨rfl, rfl, rfl⟩ | ⟨_, hp, rfl, rfl⟩
      · exact spec_take_in str 0 168 hs (by decide) (by decide)
      · have := spec_take_new (blkS s (i / 56 - 1)) 168 (blkS_size s hs _) (by decide) (by decide)
        have e : permB (blkS s (i / 56 - 1)) = blkS s (i / 56) := by
          obtain ⟨m, hm⟩ : ∃ m, i / 56 = m + 1 := ⟨i / 56 - 1, by omega⟩
          rw [hm]; rfl
        rw [e] at this
        exact this
    refine Ev.step (f := fun k => (spec_StreamTake.f k str a 168).bind fun bt249 => spec_Uniform.j2 k l bt249.2.2 (i : Int) ((3 * (i % 56) : Nat) : Int) bt249.1 bt249.2.1) (fun k => ?_) (Ev.bind ht h3)
    simp only [spec_Uniform.j1, e1]
    rw [if_pos trivial, if_pos (by omega)]
theorem spec_rounds (s : ByteArray) (hs : s.size = 200) : ∀ n l i x9 str a, n + i = 4000 → l.length ≤ 256 → StS s i x9 str a → Ev (fun k => spec_Uniform.l0 k l x9 (i : Int) str a) (fill (goU s n l i))
  | 0, l, i, x9, str, a, hn, hl, h => by
    refine Ev.step (f := fun k => spec_Uniform.j1 k l x9 (i : Int) false str a) (fun k => ?_) (Ev.step (fun k => ?_) (spec_fill l hl))
    · simp only [spec_Uniform.l0]
      rw [if_neg (by omega)]
    · simp only [spec_Uniform.j1]
      rw [if_neg (by decide)]
  | n + 1, l, i, x9, str, a, hn, hl, h => by
    simp only [goU]
    by_cases hq : l.length < 256
    · rw [if_pos hq]
      have ih := spec_rounds s hs n (roundU s l i) (i + 1) _ _ 168 (by omega) (roundU_len s l i hl) (StS.next s i)
      refine Ev.step (fun k => ?_) (spec_round s hs l hq i (by omega) x9 str a h _ ih)
      simp only [spec_Uniform.l0]
      rw [if_pos (by omega), decide_eq_true (by omega)]
    · rw [if_neg hq]
      refine Ev.step (f := fun k => spec_Uniform.j1 k l x9 (i : Int) false str a) (fun k => ?_) (Ev.step (fun k => ?_) (spec_fill l hl))
      · simp only [spec_Uniform.l0]
        rw [if_pos (by omega), decide_eq_false (by omega)]
      · simp only [spec_Uniform.j1]
        rw [if_neg (by decide)]
/-- Where the program stands ahead of round i. -/
def StI (s : ByteArray) (i : Nat) (str : ByteArray) (at_ : Int) : Prop :=
  (i % 56 ≠ 0 ∧ str = blkS s (i / 56) ∧ at_ = ((3 * (i % 56) : Nat) : Int)) ∨ (i = 0 ∧ str = s ∧ at_ = 0) ∨ (i % 56 = 0 ∧ 0 < i ∧ str = blkS s (i / 56 - 1) ∧ at_ = 168)
theorem StI.next (s : ByteArray) (i : Nat) : StI s (i + 1) (blkS s (i / 56)) ((3 * (i % 56) + 3 : Nat) : Int) := by
  unfold StI
  by_cases h : (i + 1) % 56 = 0
  · exact Or.inr (Or.inr ⟨h, by omega, by rw [show (i + 1) / 56 - 1 = i / 56 by omega], by omega⟩)
  · exact Or.inl ⟨h, by rw [show (i + 1) / 56 = i / 56 by omega], by omega⟩
theorem fill_set (l : List Int) (v : Int) (h : l.length < 256) : (fill l).set l.length v = fill (l ++ [v]) := by
  unfold fill
  rw [List.set_append_right _ _ (Nat.le_refl _), Nat.sub_self, List.length_append, List.length_singleton, show 256 - l.length = 256 - (l.length + 1) + 1 by omega, List.replicate_succ, List.set_cons_zero, List.append_assoc]
  rfl
theorem impl_put (l y : List Int) (hl : l.length ≤ 256) (v : Int) (i : Int) (j : Nat) (hj : j < 2) (hy : y.length = 2) (hv : rd y (j : Int) = v) (str : ByteArray) (a : Int) (r : List Int)
    (h : Ev (fun k => impl_Uniform.l1 k (fill (put l v)) ((put l v).length : Int) i y 2 ((j + 1 : Nat) : Int) str a) r) : Ev (fun k => impl_Uniform.l1 k (fill l) (l.length : Int) i y 2 (j : Int) str a) r := by
  refine Ev.step (fun k => ?_) h
  have c1 : (j : Int) < 2 := by omega
  have c2 : (0 : Int) ≤ (j : Int) := by omega
  have c3 : (j : Int) < (y.length : Int) := by omega
  have w1 := w64s j (by omega)
  have w2 := w64s l.length (by omega)
  have hf := fill_len l hl
  simp only [impl_Uniform.l1, hv, w1, w2]
  rw [if_pos c1, if_pos c2, if_pos c3]
  by_cases h1 : v < 3329
  · rw [if_pos h1]
    by_cases h2 : l.length < 256
    · rw [if_pos (by omega), if_pos (by omega), if_pos (by omega), Int.toNat_natCast, put_in l v h1 h2, fill_set l v h2, List.length_append, List.length_singleton]
    · rw [if_neg (by omega), put_out l v (by omega)]
  · rw [if_neg h1, put_out l v (by omega)]
theorem impl_round (s : ByteArray) (hs : s.size = 200) (l : List Int) (hl : l.length < 256) (i : Nat) (hi : i < 4000) (str : ByteArray) (a : Int) (h : StI s i str a) (r : List Int)
    (hr : Ev (fun k => impl_Uniform.l0 k (fill (roundU s l i)) ((roundU s l i).length : Int) ((i + 1 : Nat) : Int) (blkS s (i / 56)) ((3 * (i % 56) + 3 : Nat) : Int)) r) : Ev (fun k => impl_Uniform.j1 k (fill l) (l.length : Int) (i : Int) true str a) r := by
  have hB := blkS_size s hs (i / 56)
  have ht : Ev (fun k => impl_StreamTake.f k str a 3) (blkS s (i / 56), ((3 * (i % 56) + 3 : Nat) : Int), (blkS s (i / 56)).extract (3 * (i % 56)) (3 * (i % 56) + 3)) := by
    rcases h with ⟨h1, rfl, rfl⟩ | ⟨rfl, rfl, rfl⟩ | ⟨hz, hp, rfl, rfl⟩
    · exact impl_take_in _ (3 * (i % 56)) 3 hB (by decide) (by omega)
    · exact impl_take_in str 0 3 hs (by decide) (by decide)
    · have := impl_take_new (blkS s (i / 56 - 1)) 3 (blkS_size s hs _) (by decide) (by decide)
      have e : permB (blkS s (i / 56 - 1)) = blkS s (i / 56) := by
        obtain ⟨m, hm⟩ : ∃ m, i / 56 = m + 1 := ⟨i / 56 - 1, by omega⟩
        rw [hm]; rfl
      rw [e] at this
      rw [hz]
      exact this
  have hz := ext_size (blkS s (i / 56)) (3 * (i % 56)) 3 (by omega)
  have hb : ∀ q : Nat, q < 3 → bt ((blkS s (i / 56)).extract (3 * (i % 56)) (3 * (i % 56) + 3)) (q : Int) = rb s i q := fun q hq => bt_ext (blkS s (i / 56)) (3 * (i % 56)) 3 q (by omega) hq
  have z0 : (0 : Int) < (((blkS s (i / 56)).extract (3 * (i % 56)) (3 * (i % 56) + 3)).size : Int) := by rw [hz]; decide
  have z1 : (1 : Int) < (((blkS s (i / 56)).extract (3 * (i % 56)) (3 * (i % 56) + 3)).size : Int) := by rw [hz]; decide
  have z2 : (2 : Int) < (((blkS s (i / 56)).extract (3 * (i % 56)) (3 * (i % 56) + 3)).size : Int) := by rw [hz]; decide
  have w3 := w64s i (by omega)
  have r0 : 0 ≤ rb s i 0 ∧ rb s i 0 ≤ 255 := bt_in _ _
  have r1 : 0 ≤ rb s i 1 ∧ rb s i 1 ≤ 255 := bt_in _ _
  have r2 : 0 ≤ rb s i 2 ∧ rb s i 2 ≤ 255 := bt_in _ _
  have e0 : bt ((blkS s (i / 56)).extract (3 * (i % 56)) (3 * (i % 56) + 3)) 0 = rb s i 0 := hb 0 (by decide)
  have e1 : bt ((blkS s (i / 56)).extract (3 * (i % 56)) (3 * (i % 56) + 3)) 1 = rb s i 1 := hb 1 (by decide)
  have e2 : bt ((blkS s (i / 56)).extract (3 * (i % 56)) (3 * (i % 56) + 3)) 2 = rb s i 2 := hb 2 (by decide)
  generalize hE : (blkS s (i / 56)).extract (3 * (i % 56)) (3 * (i % 56) + 3) = E at ht hz e0 e1 e2 z0 z1 z2
  refine Ev.step (f := fun k => (impl_StreamTake.f k str a 3).bind fun bt273 => (if 0 < (bt273.2.2.size : Int) then (if 1 < (bt273.2.2.size : Int) then (if 2 < (bt273.2.2.size : Int) then ((some (([wrap64 ((wrap64 (bt bt273.2.2 0)) + (wrap64 ((Int.tmod (wrap64 (bt bt273.2.2 1)) 16) * 256))), wrap64 ((wrap64 (Int.tdiv (wrap64 (bt bt273.2.2 1)) 16)) + (wrap64 (16 * (wrap64 (bt bt273.2.2 2)))))] : List Int) : List Int)).bind fun y277 => (impl_Uniform.l1 k (fill l) (l.length : Int) (i : Int) y277 (y277.length : Int) 0 bt273.1 bt273.2.1)) else (none)) else (none)) else (none))) (fun k => ?_) (Ev.bind ht ?_)
  · simp only [impl_Uniform.j1]
    rw [if_pos trivial]
  · refine Ev.pos z0 (Ev.pos z1 (Ev.pos z2 ?_))
    simp only [Option.bind_some, e0, e1, e2, low_impl _ _ r0 r1, high_spec _ _ r1 r2]
    clear e0 e1 e2 r0 r1 r2 hb hz z0 z1 z2 ht
    unfold roundU take3 at hr
    generalize lowV (rb s i 0) (rb s i 1) = v at hr ⊢
    generalize highV (rb s i 1) (rb s i 2) = u at hr ⊢
    refine impl_put l [v, u] (by omega) v (i : Int) 0 (by decide) rfl rfl _ _ r ?_
    refine impl_put (put l v) [v, u] (put_len _ _ (by omega)) u (i : Int) 1 (by decide) rfl rfl _ _ r ?_
    refine Ev.step (fun k => ?_) hr
    simp only [impl_Uniform.l1]
    rw [if_neg (by decide), w3]
theorem impl_rounds (s : ByteArray) (hs : s.size = 200) : ∀ n l i str a, n + i = 4000 → l.length ≤ 256 → StI s i str a → Ev (fun k => impl_Uniform.l0 k (fill l) (l.length : Int) (i : Int) str a) (fill (goU s n l i))
  | 0, l, i, str, a, hn, hl, h => by
    refine Ev.step (f := fun k => impl_Uniform.j1 k (fill l) (l.length : Int) (i : Int) false str a) (fun k => ?_) (Ev.step (f := fun _ => some (fill l)) (fun k => ?_) (Ev.now _))
    · simp only [impl_Uniform.l0]
      rw [if_neg (by omega)]
    · simp only [impl_Uniform.j1]
      rw [if_neg (by decide)]
  | n + 1, l, i, str, a, hn, hl, h => by
    simp only [goU]
    by_cases hq : l.length < 256
    · rw [if_pos hq]
      have ih := impl_rounds s hs n (roundU s l i) (i + 1) _ _ (by omega) (roundU_len s l i hl) (StI.next s i)
      refine Ev.step (fun k => ?_) (impl_round s hs l hq i (by omega) str a h _ ih)
      simp only [impl_Uniform.l0]
      rw [if_pos (by omega), decide_eq_true (by omega)]
    · rw [if_neg hq]
      refine Ev.step (f := fun k => impl_Uniform.j1 k (fill l) (l.length : Int) (i : Int) false str a) (fun k => ?_) (Ev.step (f := fun _ => some (fill l)) (fun k => ?_) (Ev.now _))
      · simp only [impl_Uniform.l0]
        rw [if_pos (by omega), decide_eq_false (by omega)]
      · simp only [impl_Uniform.j1]
        rw [if_neg (by decide)]
def uniV (s : ByteArray) (x y : Int) : List Int := fill (uniL (absV ((s ++ oneB x) ++ oneB y)))
theorem uniL_len (s : ByteArray) : (uniL s).length ≤ 256 := goU_len s 4000 [] 0 (by decide)
theorem uniV_len (s : ByteArray) (x y : Int) : (uniV s x y).length = 256 := fill_len _ (uniL_len _)
theorem spec_Uniform_ev (s : ByteArray) (x y : Int) (hs : s.size ≤ 1048576) : Ev (fun k => spec_Uniform.f k s x y) (uniV s x y) := by
  unfold spec_Uniform.f
  have h1 := oneB_size x
  have h2 := oneB_size y
  have h3 : (s ++ oneB x).size = s.size + 1 := by rw [ByteArray.size_append, h1]
  have h4 : ((s ++ oneB x) ++ oneB y).size = s.size + 2 := by rw [ByteArray.size_append, h2, h3]
  refine Ev.then (oneB_spec x) (Ev.pos (by omega) (Ev.then (oneB_spec y) (Ev.pos (by omega) (Ev.bind (spec_new_ev _ (by omega)) ?_))))
  exact spec_rounds _ (absV_size _) 4000 [] 0 _ _ 0 rfl (by decide) (Or.inr (Or.inl ⟨rfl, rfl, rfl⟩))
theorem impl_Uniform_ev (s : ByteArray) (x y : Int) (hs : s.size ≤ 1048576) : Ev (fun k => impl_Uniform.f k s x y) (uniV s x y) := by
  unfold impl_Uniform.f
  have h1 := oneB_size x
  have h2 := oneB_size y
  have h3 : (s ++ oneB x).size = s.size + 1 := by rw [ByteArray.size_append, h1]
  have h4 : ((s ++ oneB x) ++ oneB y).size = s.size + 2 := by rw [ByteArray.size_append, h2, h3]
  refine Ev.then (oneB_impl x) (Ev.pos (by omega) (Ev.then (oneB_impl y) (Ev.pos (by omega) (Ev.bind (impl_new_ev _ (by omega)) (Ev.pos (by decide) ?_)))))
  exact impl_rounds _ (absV_size _) 4000 [] 0 _ 0 rfl (by decide) (Or.inr (Or.inl ⟨rfl, rfl, rfl⟩))
end Go.Proofs.Ytnckhligcdieaaa.Pure
namespace Go.Proofs.Ytnckhligcdieaaa.Pure
open Go.RowKit Go.Proofs.YtnckhligcdieaaaW.PrintWords Go.Proofs.YtnckhligcdieaaaW.PrintLast Go.Proofs.YtnckhligcdieaaaW.PrintMore Go.Proofs.Ytnckhligcdieaaa.P Go.Proofs.Ytnckhligcdieaaa.Kit
set_option linter.unusedVariables false
set_option linter.unusedSimpArgs false

theorem w01 : wrap64 (0 + 1) = 1 := by rw [w64 (by decide) (by decide)]; rfl
theorem w00 : wrap64 (0 + 0) = 0 := by rw [w64 (by decide) (by decide)]; rfl
theorem w20 : wrap64 (2 + 0) = 2 := by rw [w64 (by decide) (by decide)]; rfl
theorem w21 : wrap64 (2 + 1) = 3 := by rw [w64 (by decide) (by decide)]; rfl
theorem w02 : wrap64 (0 * 2) = 0 := by rw [w64 (by decide) (by decide)]; rfl
theorem w12 : wrap64 (1 * 2) = 2 := by rw [w64 (by decide) (by decide)]; rfl
theorem w11 : wrap64 (1 + 1) = 2 := by rw [w64 (by decide) (by decide)]; rfl
theorem packV_small (d : Nat) (l : List Int) (hd : d ≤ 11) (hl : l.length ≤ 1000) : (packV d (sqV l d)).size ≤ 10000 := by
  unfold packV sqV
  rw [strOfNums_size, bytesL_length, List.length_map]
  have : l.length * d ≤ 1000 * 11 := Nat.mul_le_mul hl hd
  omega
/-- The matrix, by its four polynomials. -/
def matV (s : ByteArray) : List (List Int) := [uniV s 0 0, uniV s 1 0, uniV s 0 1, uniV s 1 1]
theorem spec_Matrix_ev (s : ByteArray) (hs : s.size ≤ 1048576) : Ev (fun k => spec_l13Matrix.f k s) (matV s) := by
  have r1 : ∀ (l : List (List Int)) (i j j' : Int) (hj : j < 2) (hw : wrap64 (j + 1) = j') (hl : l.length ≤ 5) (res : List (List Int)) (h : Ev (fun k => spec_l13Matrix.l1 k s (l ++ [uniV s j i]) i j') res), Ev (fun k => spec_l13Matrix.l1 k s l i j) res := by
    intro l i j j' hj hw hl res h
    refine Ev.step (fun k => by simp only [spec_l13Matrix.l1]; rw [if_pos hj, hw]) ?_
    exact Ev.bind (spec_Uniform_ev s j i hs) (Ev.pos (by omega) h)
  have r2 : ∀ (l : List (List Int)) (i i' : Int) (hw : wrap64 (i + 1) = i') (res : List (List Int)) (h : Ev (fun k => spec_l13Matrix.l0 k s l i') res), Ev (fun k => spec_l13Matrix.l1 k s l i 2) res := by
    intro l i i' hw res h
    exact Ev.step (fun k => by simp only [spec_l13Matrix.l1]; rw [if_neg (by decide), hw]) h
  have r3 : ∀ (l : List (List Int)) (i : Int) (hi : i < 2) (res : List (List Int)) (h : Ev (fun k => spec_l13Matrix.l1 k s l i 0) res), Ev (fun k => spec_l13Matrix.l0 k s l i) res := by
    intro l i hi res h
    exact Ev.step (fun k => by simp only [spec_l13Matrix.l0]; rw [if_pos hi]) h
  unfold spec_l13Matrix.f
  refine r3 _ 0 (by decide) _ (r1 _ 0 0 1 (by decide) w01 (by simp) _ (r1 _ 0 1 2 (by decide) w11 (by simp) _ (r2 _ 0 1 w01 _ (r3 _ 1 (by decide) _ (r1 _ 1 0 1 (by decide) w01 (by simp) _ (r1 _ 1 1 2 (by decide) w11 (by simp) _ (r2 _ 1 2 w11 _ ?_)))))))
  exact Ev.step (f := fun _ => some (matV s)) (fun k => by simp only [spec_l13Matrix.l0]; rw [if_neg (by decide)]; rfl) (Ev.now _)
theorem impl_row_ev (s : ByteArray) (i : Int) (hs : s.size ≤ 1048576) : Ev (fun k => impl_row.f k s i true) [uniV s i 0, uniV s i 1] := by
  have u := fun x y => impl_Uniform_ev s x y hs
  unfold impl_row.f
  refine Ev.step (f := fun k => (impl_Uniform.f k s i 0).bind fun t => impl_row.l0 k s i true [t] 1) (fun k => by simp only [impl_row.l0]; rw [if_pos (by decide), if_pos trivial, w01]; simp) (Ev.bind (u i 0) ?_)
  refine Ev.step (f := fun k => (impl_Uniform.f k s i 1).bind fun t => impl_row.l0 k s i true [uniV s i 0, t] 2) (fun k => by simp only [impl_row.l0]; rw [if_pos (by decide), if_pos trivial, w11]; simp) (Ev.bind (u i 1) ?_)
  exact Ev.step (f := fun _ => some _) (fun k => by simp only [impl_row.l0]; rw [if_neg (by decide)]) (Ev.now _)
theorem impl_smalls_ev (s : ByteArray) (a b : Int) (hb : b = wrap64 (a + 1)) (ha : a = wrap64 (a + 0)) (hs : s.size ≤ 1048576) : Ev (fun k => impl_smalls.f k s a) [smallV s a, smallV s b] := by
  have u := fun x => impl_Small_ev s x hs
  unfold impl_smalls.f
  refine Ev.step (f := fun k => (impl_Small.f k s a).bind fun t => impl_smalls.l0 k s a [t] 1) (fun k => by simp only [impl_smalls.l0]; rw [if_pos (by decide), w01, ← ha]; simp) (Ev.bind (u a) ?_)
  refine Ev.step (f := fun k => (impl_Small.f k s b).bind fun t => impl_smalls.l0 k s a [smallV s a, t] 2) (fun k => by simp only [impl_smalls.l0]; rw [if_pos (by decide), w11, ← hb]; simp) (Ev.bind (u b) ?_)
  exact Ev.step (f := fun _ => some _) (fun k => by simp only [impl_smalls.l0]; rw [if_neg (by decide)]) (Ev.now _)
theorem impl_ntts_ev (a b A B : List Int) (h1 : Ev (fun k => impl_Ntt.f k a) A) (h2 : Ev (fun k => impl_Ntt.f k b) B) : Ev (fun k => impl_ntts.f k [a, b]) [A, B] := by
  unfold impl_ntts.f
  refine Ev.step (f := fun k => (impl_Ntt.f k a).bind fun t => impl_ntts.l0 k [t] [a, b] 2 1) (fun k => by simp only [impl_ntts.l0]; rw [if_pos (by simp), if_pos (by decide), if_pos (by simp), w01]; rfl) (Ev.bind h1 ?_)
  refine Ev.step (f := fun k => (impl_Ntt.f k b).bind fun t => impl_ntts.l0 k [A, t] [a, b] 2 2) (fun k => by simp only [impl_ntts.l0]; rw [if_pos (by simp), if_pos (by decide), if_pos (by simp), w11]; simp [rd_L5]) (Ev.bind h2 ?_)
  exact Ev.step (f := fun _ => some _) (fun k => by simp only [impl_ntts.l0]; rw [if_neg (by decide)]) (Ev.now _)
/-- One part of a cipher, of the reference. -/
theorem enc_spec_round (m c : ByteArray) (T M R : List (List Int)) (o : ByteArray) (i i2 : Int) (hi : i < 2) (c0 c1 s v e u : List Int) (p : ByteArray) (res : ByteArray × Bool)
    (j0 j1 : Int) (hM : M.length = 4) (z0 : wrap64 (0 + i) = j0) (z1 : wrap64 (2 + i) = j1) (q0 : 0 ≤ j0 ∧ j0 < 4) (q1 : 0 ≤ j1 ∧ j1 < 4) (k2 : rd_L5 M j0 = c0) (k5 : rd_L5 M j1 = c1) (k6 : wrap64 (2 + i) = i2)
    (f1 : Ev (fun k => spec_l13Sum.f k [c0, c1] R) s) (f2 : Ev (fun k => spec_InvNtt.f k s) v) (f3 : Ev (fun k => spec_Small.f k c i2) e) (f4 : Ev (fun k => spec_PolyAdd.f k v e) u) (f5 : Ev (fun k => spec_l13Squeezed.f k u 10) p) (hp : o.size + p.size ≤ 9223372036854775807)
    (h : Ev (fun k => spec_Encrypt.l1 k m c T M R (o ++ p) (wrap64 (i + 1))) res) : Ev (fun k => spec_Encrypt.l1 k m c T M R o i) res := by
  refine Ev.step (f := fun k => spec_Encrypt.l2 k m c T M R o i [] 0) (fun k => by simp only [spec_Encrypt.l1]; rw [if_pos hi]) ?_
  refine Ev.step (f := fun k => spec_Encrypt.l2 k m c T M R o i [c0] 1) (fun k => by simp only [spec_Encrypt.l2]; rw [if_pos (by decide), w02, z0, if_pos q0.1, if_pos (by omega), k2, w01]; simp) ?_
  refine Ev.step (f := fun k => spec_Encrypt.l2 k m c T M R o i [c0, c1] 2) (fun k => by simp only [spec_Encrypt.l2]; rw [if_pos (by decide), w12, z1, if_pos q1.1, if_pos (by omega), k5, w11]; simp) ?_
  refine Ev.step (fun k => by simp only [spec_Encrypt.l2]; rw [if_neg (by decide), k6]) ?_
  exact Ev.bind f1 (Ev.bind f2 (Ev.bind f3 (Ev.bind f4 (Ev.bind f5 (Ev.pos hp h)))))
theorem enc_impl_round (m c : ByteArray) (T : List (List Int)) (rho : ByteArray) (R E : List (List Int)) (o : ByteArray) (i : Int) (hi : i < 2) (h0 : 0 ≤ i) (row : List (List Int)) (s v e u q : List Int) (p : ByteArray) (res : ByteArray × Bool) (hE : i < (E.length : Int)) (he : rd_L5 E i = e)
    (f0 : Ev (fun k => impl_row.f k rho i true) row) (f1 : Ev (fun k => impl_dot.f k row R) s) (f2 : Ev (fun k => impl_InvNtt.f k s) v) (f4 : Ev (fun k => impl_PolyAdd.f k v e) u) (f5 : Ev (fun k => impl_squeezed.f k u 10) q) (f6 : Ev (fun k => impl_packed.f k q 10) p) (hp : o.size + p.size ≤ 9223372036854775807)
    (h : Ev (fun k => impl_Encrypt.l0 k m c T rho R E (o ++ p) (wrap64 (i + 1))) res) : Ev (fun k => impl_Encrypt.l0 k m c T rho R E o i) res := by
  refine Ev.step (fun k => by simp only [impl_Encrypt.l0]; rw [if_pos hi, he]) ?_
  exact Ev.bind f0 (Ev.bind f1 (Ev.bind f2 (Ev.pos h0 (Ev.pos hE (Ev.bind f4 (Ev.bind f5 (Ev.bind f6 (Ev.pos hp h))))))))
theorem encrypt_any (P m c : ByteArray) : ∃ R : ByteArray × Bool, Ev (fun k => spec_Encrypt.f k P m c) R ∧ Ev (fun k => impl_Encrypt.f k P m c) R := by
  have sbad : Ev (fun k => spec_Encrypt.j0 k P m c true) ((⟨#[]⟩ : ByteArray), false) := Ev.step (f := fun _ => some _) (fun k => by simp only [spec_Encrypt.j0]; rw [if_pos trivial]) (Ev.now _)
  have ibad : Ev (fun k => impl_Encrypt.j0 k P m c true) ((⟨#[]⟩ : ByteArray), false) := Ev.step (f := fun _ => some _) (fun k => by simp only [impl_Encrypt.j0]; rw [if_pos trivial]) (Ev.now _)
  have so := spec_PublicOk_ev P
  have io := impl_PublicOk_ev P
  by_cases h : publicOkV P = true
  rotate_left
  · refine ⟨((⟨#[]⟩ : ByteArray), false), ?_, ?_⟩
    · unfold spec_Encrypt.f
      exact Ev.bind so (Ev.neg h sbad)
    · unfold impl_Encrypt.f
      exact Ev.bind io (Ev.neg h ibad)
  by_cases hm : (m.size : Int) = 32
  rotate_left
  · refine ⟨((⟨#[]⟩ : ByteArray), false), ?_, ?_⟩
    · unfold spec_Encrypt.f
      exact Ev.bind so (Ev.pos h (Ev.neg hm sbad))
    · unfold impl_Encrypt.f
      exact Ev.bind io (Ev.pos h (Ev.neg hm ibad))
  by_cases hc : (c.size : Int) = 32
  rotate_left
  · have hcb : ((c.size : Int) != 32) = true := bne_iff_ne.mpr hc
    refine ⟨((⟨#[]⟩ : ByteArray), false), ?_, ?_⟩
    · unfold spec_Encrypt.f
      refine Ev.bind so (Ev.pos h (Ev.pos hm ?_))
      rw [hcb]
      exact sbad
    · unfold impl_Encrypt.f
      refine Ev.bind io (Ev.pos h (Ev.pos hm ?_))
      rw [hcb]
      exact ibad
  have hcb : ((c.size : Int) != 32) = false := bne_eq_false_iff_eq.mpr hc
  have hP : P.size = 800 ∧ (two384 P).2 = true := by
    unfold publicOkV at h
    split at h
    · exact ⟨by omega, h⟩
    · exact absurd h (by decide)
  obtain ⟨t0, t1, hT, T0, T1⟩ := two384_len P hP.2
  have hr : (P.extract 768 P.size).size ≤ 1048576 := by rw [ByteArray.size_extract]; omega
  have sP := spec_l13Polys_ev P (by omega)
  have iP := impl_polysOf_ev P (by omega)
  have cs : c.size ≤ 1048576 := by omega
  have ul := fun x y => uniV_len (P.extract 768 P.size) x y
  have sl := fun n => smallV_len c n
  obtain ⟨R0, R0l, n1, n2⟩ := ntt_any (smallV c 0) (by rw [sl]; decide)
  obtain ⟨R1, R1l, n3, n4⟩ := ntt_any (smallV c 1) (by rw [sl]; decide)
  have part : ∀ (a b e : List Int), a.length ≤ 1000 → b.length ≤ 1000 → e.length ≤ 1000 → ∃ s v u : List Int, u.length ≤ 256 ∧ Ev (fun k => spec_l13Sum.f k [a, b] [R0, R1]) s ∧ Ev (fun k => impl_dot.f k [a, b] [R0, R1]) s ∧ Ev (fun k => spec_InvNtt.f k s) v ∧ Ev (fun k => impl_InvNtt.f k s) v ∧ Ev (fun k => spec_PolyAdd.f k v e) u ∧ Ev (fun k => impl_PolyAdd.f k v e) u := by
    intro a b e ha hb he
    obtain ⟨s, s1, s2, s3⟩ := sum_any a b R0 R1 (by omega) (by omega) (by omega) (by omega)
    obtain ⟨v, v1, v2, v3⟩ := inv_any s (by omega)
    obtain ⟨u, u1, u2, u3⟩ := add_any v e (by omega) (by omega)
    exact ⟨s, v, u, u1, s2, s3, v2, v3, u2, u3⟩
  obtain ⟨s0, v0, u0, l0, a1, a2, a3, a4, a5, a6⟩ := part (uniV (P.extract 768 P.size) 0 0) (uniV (P.extract 768 P.size) 0 1) (smallV c 2) (by rw [ul]; decide) (by rw [ul]; decide) (by rw [sl]; decide)
  obtain ⟨s1, v1, u1, l1, b1, b2, b3, b4, b5, b6⟩ := part (uniV (P.extract 768 P.size) 1 0) (uniV (P.extract 768 P.size) 1 1) (smallV c 3) (by rw [ul]; decide) (by rw [ul]; decide) (by rw [sl]; decide)
  obtain ⟨s2, v2, u2, l2, c1, c2, c3, c4, c5, c6⟩ := part t0 t1 (smallV c 4) (by omega) (by omega) (by rw [sl]; decide)
  obtain ⟨w, w1, w2, w3⟩ := add_any u2 (bitsV m) (by omega) (by rw [bitsV_len]; decide)
  have e0 : (⟨#[]⟩ : ByteArray).size = 0 := rfl
  have p0 := packV_small 10 u0 (by decide) (by omega)
  have p1 := packV_small 10 u1 (by decide) (by omega)
  have p2 := packV_small 4 w (by decide) (by omega)
  have q0 : ((⟨#[]⟩ : ByteArray) ++ packV 10 (sqV u0 (10 : Nat))).size ≤ 10000 := by rw [ByteArray.size_append]; show 0 + _ ≤ _; omega
  have q1 : (((⟨#[]⟩ : ByteArray) ++ packV 10 (sqV u0 (10 : Nat))) ++ packV 10 (sqV u1 (10 : Nat))).size ≤ 20000 := by rw [ByteArray.size_append]; omega
  refine ⟨((((⟨#[]⟩ : ByteArray) ++ packV 10 (sqV u0 (10 : Nat))) ++ packV 10 (sqV u1 (10 : Nat))) ++ packV 4 (sqV w (4 : Nat)), true), ?_, ?_⟩
  · unfold spec_Encrypt.f
    refine Ev.bind so (Ev.pos h (Ev.pos hm ?_))
    rw [hcb]
    refine Ev.step (fun k => by simp only [spec_Encrypt.j0]; rw [if_neg (by decide)]) (Ev.bind sP ?_)
    rw [hT]
    refine Ev.pos (by omega) (Ev.bind (spec_Matrix_ev _ hr) ?_)
    refine Ev.step (f := fun k => (spec_Small.f k c 0).bind fun t => (spec_Ntt.f k t).bind fun u => spec_Encrypt.l0 k m c [t0, t1] (matV (P.extract 768 P.size)) [u] 1) (fun k => by simp only [spec_Encrypt.l0]; rw [if_pos (by decide), w01]; simp) (Ev.bind (spec_Small_ev c 0 cs) (Ev.bind n1 ?_))
    refine Ev.step (f := fun k => (spec_Small.f k c 1).bind fun t => (spec_Ntt.f k t).bind fun u => spec_Encrypt.l0 k m c [t0, t1] (matV (P.extract 768 P.size)) [R0, u] 2) (fun k => by simp only [spec_Encrypt.l0]; rw [if_pos (by decide), w11]; simp) (Ev.bind (spec_Small_ev c 1 cs) (Ev.bind n3 ?_))
    refine Ev.step (f := fun k => spec_Encrypt.l1 k m c [t0, t1] (matV (P.extract 768 P.size)) [R0, R1] (⟨#[]⟩ : ByteArray) 0) (fun k => by simp only [spec_Encrypt.l0]; rw [if_neg (by decide)]) ?_
    refine enc_spec_round m c [t0, t1] _ [R0, R1] _ 0 2 (by decide) _ _ s0 v0 (smallV c 2) u0 _ _ 0 2 rfl w00 w20 (by decide) (by decide) rfl rfl w20 a1 a3 (spec_Small_ev c 2 cs) a5 (spec_l13Squeezed_ev u0 10 (by decide) (by decide) (by omega)) (by omega) ?_
    rw [w01]
    refine enc_spec_round m c [t0, t1] _ [R0, R1] _ 1 3 (by decide) _ _ s1 v1 (smallV c 3) u1 _ _ 1 3 rfl w01 w21 (by decide) (by decide) rfl rfl w21 b1 b3 (spec_Small_ev c 3 cs) b5 (spec_l13Squeezed_ev u1 10 (by decide) (by decide) (by omega)) (by omega) ?_
    rw [w11]
    refine Ev.step (fun k => by simp only [spec_Encrypt.l1]; rw [if_neg (by decide)]) ?_
    exact Ev.bind c1 (Ev.bind c3 (Ev.bind (spec_Small_ev c 4 cs) (Ev.bind c5 (Ev.bind (spec_l13Bits_ev m (by omega)) (Ev.bind w2 (Ev.bind (spec_l13Squeezed_ev w 4 (by decide) (by decide) (by omega)) (Ev.pos (by omega) (Ev.now _))))))))
  · unfold impl_Encrypt.f
    refine Ev.bind io (Ev.pos h (Ev.pos hm ?_))
    rw [hcb]
    refine Ev.step (fun k => by simp only [impl_Encrypt.j0]; rw [if_neg (by decide)]) (Ev.bind iP ?_)
    rw [hT]
    refine Ev.pos (by omega) (Ev.bind (impl_smalls_ev c 0 1 w01.symm w00.symm cs) (Ev.bind (impl_ntts_ev _ _ _ _ n2 n4) (Ev.bind (impl_smalls_ev c 2 3 w21.symm w20.symm cs) ?_)))
    refine enc_impl_round m c [t0, t1] _ [R0, R1] _ _ 0 (by decide) (by decide) _ s0 v0 (smallV c 2) u0 _ _ _ (by simp) rfl (impl_row_ev _ 0 hr) a2 a4 a6 (impl_squeezed_ev u0 10 (by omega)) (impl_sq_packed_ev u0 10 (by decide) (by decide) (by omega)) (by omega) ?_
    rw [w01]
    refine enc_impl_round m c [t0, t1] _ [R0, R1] _ _ 1 (by decide) (by decide) _ s1 v1 (smallV c 3) u1 _ _ _ (by simp) rfl (impl_row_ev _ 1 hr) b2 b4 b6 (impl_squeezed_ev u1 10 (by omega)) (impl_sq_packed_ev u1 10 (by decide) (by decide) (by omega)) (by omega) ?_
    rw [w11]
    refine Ev.step (fun k => by simp only [impl_Encrypt.l0]; rw [if_neg (by decide)]) ?_
    exact Ev.bind c2 (Ev.bind c4 (Ev.bind (impl_Small_ev c 4 cs) (Ev.bind c6 (Ev.bind (impl_bitsOf_ev m (by omega)) (Ev.bind w3 (Ev.bind (impl_squeezed_ev w 4 (by omega)) (Ev.bind (impl_sq_packed_ev w 4 (by decide) (by decide) (by omega)) (Ev.pos (by omega) (Ev.now _)))))))))
end Go.Proofs.Ytnckhligcdieaaa.Pure
