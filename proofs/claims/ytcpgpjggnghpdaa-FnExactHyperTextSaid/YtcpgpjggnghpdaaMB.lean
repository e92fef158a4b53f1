/- Bytes and the number that they write, the least first: lists of bytes, single bits set in them, numbers laid side by side. -/
import Derived.Test.YtcpgpjggnghpdaaMK
namespace Go.Proofs.Ytcpgpjggnghpdaa.Pure
open Go.RowKit Go.Proofs.YtcpgpjggnghpdaaW.PrintWords Go.Proofs.YtcpgpjggnghpdaaW.PrintLast Go.Proofs.YtcpgpjggnghpdaaW.PrintMore

/-- The first L bytes of S, the least first. -/
def bytesL (L S : Nat) : List Int := (List.range L).map fun j => ((S / 256 ^ j % 256 : Nat) : Int)
theorem bytesL_length (L S : Nat) : (bytesL L S).length = L := by simp [bytesL]
theorem bytesL_get (L S j : Nat) (h : j < (bytesL L S).length) : (bytesL L S)[j] = ((S / 256 ^ j % 256 : Nat) : Int) := by simp [bytesL]
theorem bytesL_zero (L : Nat) : bytesL L 0 = List.replicate L 0 := by
  apply List.ext_getElem
  · simp [bytesL]
  · intro j h1 h2
    rw [bytesL_get]; simp
theorem bytesL_snoc (L S : Nat) : bytesL L S ++ [((S / 256 ^ L % 256 : Nat) : Int)] = bytesL (L + 1) S := by simp [bytesL, List.range_succ]

theorem pow256 (j : Nat) : 256 ^ j = 2 ^ (8 * j) := by rw [Nat.pow_mul]
theorem div_add_hi {a c m : Nat} (hc : 0 < c) (h : m % c = 0) : (a + m) / c = a / c + m / c := by
  obtain ⟨t, rfl⟩ : ∃ t, m = c * t := ⟨m / c, by have := Nat.div_add_mod m c; omega⟩
  rw [Nat.add_mul_div_left _ _ hc, Nat.mul_div_cancel_left _ hc]
theorem bit_add {S P T b : Nat} (hP : 0 < P) (hS : S < P * T) (hT : T ≤ 128) (hb : b ≤ 1) : S / P % 256 + b * T = (S + b * (P * T)) / P % 256 := by
  have hq : S / P < T := Nat.div_lt_of_lt_mul hS
  have hb2 : b * T ≤ T := by
    have := Nat.mul_le_mul_right T hb
    omega
  rw [show b * (P * T) = P * (b * T) from Nat.mul_left_comm .., Nat.add_mul_div_left _ _ hP]
  obtain ⟨q, hq'⟩ : ∃ q, S / P = q := ⟨_, rfl⟩
  obtain ⟨u, hu⟩ : ∃ u, b * T = u := ⟨_, rfl⟩
  rw [hq'] at hq ⊢
  rw [hu] at hb2 ⊢
  rw [Nat.mod_eq_of_lt (show q < 256 by omega), Nat.mod_eq_of_lt (show q + u < 256 by omega)]
/-- Setting a bit above all others. -/
theorem bytesL_bit (L S m b : Nat) (hS : S < 2 ^ m) (hb : b ≤ 1) :
    (bytesL L S).set (m / 8) ((((S / 256 ^ (m / 8)) % 256 + b * 2 ^ (m % 8) : Nat)) : Int) = bytesL L (S + b * 2 ^ m) := by
  have hmm : 2 ^ m = 256 ^ (m / 8) * 2 ^ (m % 8) := by rw [pow256, ← Nat.pow_add]; congr 1; omega
  have h7 : 2 ^ (m % 8) ≤ 128 := by
    have : m % 8 ≤ 7 := by omega
    exact Nat.pow_le_pow_right (n := 2) (by omega) this
  apply List.ext_getElem
  · simp [bytesL]
  · intro j h1 h2
    rw [List.getElem_set, bytesL_get, bytesL_get]
    by_cases hj : m / 8 = j
    · rw [if_pos hj]; subst hj
      congr 1
      rw [hmm]
      exact bit_add (Nat.pow_pos (by omega)) (by rw [← hmm]; exact hS) h7 hb
    · rw [if_neg hj]
      congr 1
      by_cases hlt : j < m / 8
      · obtain ⟨d, hd⟩ : ∃ d, m / 8 = j + 1 + d := ⟨m / 8 - (j + 1), by omega⟩
        have e : b * 2 ^ m = 256 ^ j * (256 * (256 ^ d * (b * 2 ^ (m % 8)))) := by
          rw [hmm, hd, Nat.pow_add, Nat.pow_add]; simp only [Nat.pow_one, Nat.mul_assoc, Nat.mul_comm, Nat.mul_left_comm]
        rw [e, Nat.add_mul_div_left _ _ (Nat.pow_pos (by omega)), Nat.add_mul_mod_self_left]
      · have hle : 2 ^ (m + 1) ≤ 256 ^ j := by rw [pow256]; exact Nat.pow_le_pow_right (by omega) (by omega)
        rw [Nat.pow_succ] at hle
        have hb2 : b * 2 ^ m ≤ 2 ^ m := by
          have := Nat.mul_le_mul_right (2 ^ m) hb
          omega
        rw [Nat.div_eq_of_lt (by omega), Nat.div_eq_of_lt (by omega)]

/-- Numbers of b bits, side by side, the first lowest. -/
def valB (b : Nat) : List Nat → Nat
  | [] => 0
  | x :: l => x + 2 ^ b * valB b l
theorem valB_snoc (b : Nat) (l : List Nat) (x : Nat) : valB b (l ++ [x]) = valB b l + 2 ^ (b * l.length) * x := by
  induction l with
  | nil => simp [valB]
  | cons a l ih =>
    simp only [List.cons_append, valB, ih, List.length_cons, Nat.mul_add, Nat.mul_succ, Nat.pow_add]
    rw [Nat.add_assoc]; congr 2
    rw [← Nat.mul_assoc, Nat.mul_comm (2 ^ b)]
theorem valB_lt (b : Nat) (l : List Nat) (h : ∀ x ∈ l, x < 2 ^ b) : valB b l < 2 ^ (b * l.length) := by
  induction l with
  | nil => simp [valB]
  | cons a l ih =>
    have h1 := h a (List.mem_cons_self ..)
    have h2 := ih fun x hx => h x (List.mem_cons_of_mem _ hx)
    simp only [valB, List.length_cons, Nat.mul_succ, Nat.pow_add]
    have h3 : 2 ^ b * valB b l + 2 ^ b ≤ 2 ^ b * 2 ^ (b * l.length) := by
      rw [← Nat.mul_succ]; exact Nat.mul_le_mul_left _ h2
    rw [Nat.mul_comm (2 ^ (b * l.length))]
    omega
theorem valB_take_succ (b : Nat) (l : List Nat) (i : Nat) (h : i < l.length) : valB b (l.take (i + 1)) = valB b (l.take i) + 2 ^ (b * i) * l[i] := by
  rw [← List.take_append_getElem h, valB_snoc, List.length_take, Nat.min_eq_left (by omega)]
/-- The pieces of S of b bits each are what they are put together again. -/
theorem valB_pieces (b S n : Nat) : valB b ((List.range n).map fun i => S / 2 ^ (b * i) % 2 ^ b) = S % 2 ^ (b * n) := by
  induction n with
  | zero => simp [valB, Nat.mod_one]
  | succ n ih =>
    rw [List.range_succ, List.map_append, List.map_cons, List.map_nil, valB_snoc, ih, List.length_map, List.length_range, Nat.mul_succ, Nat.pow_add, Nat.mod_mul]
theorem valB_piece (b : Nat) (l : List Nat) (h : ∀ x ∈ l, x < 2 ^ b) (i : Nat) (hi : i < l.length) : valB b l / 2 ^ (b * i) % 2 ^ b = l[i] := by
  induction l generalizing i with
  | nil => exact absurd hi (by simp)
  | cons a l ih =>
    have h1 := h a (List.mem_cons_self ..)
    cases i with
    | zero => simp only [valB, Nat.mul_zero, Nat.pow_zero, Nat.div_one, Nat.add_mul_mod_self_left, List.getElem_cons_zero]; exact Nat.mod_eq_of_lt h1
    | succ i =>
      have h2 := ih (fun x hx => h x (List.mem_cons_of_mem _ hx)) i (by simpa using hi)
      simp only [valB, List.getElem_cons_succ]
      rw [Nat.mul_succ, Nat.add_comm (b * i), Nat.pow_add, ← Nat.div_div_eq_div_mul, Nat.add_mul_div_left _ _ (Nat.two_pow_pos b), Nat.div_eq_of_lt h1, Nat.zero_add]
      exact h2

/-- The number that bytes write. -/
def bnum (s : ByteArray) : Nat := valB 8 (s.data.toList.map UInt8.toNat)
theorem bnum_lt (s : ByteArray) : bnum s < 256 ^ s.size := by
  have h := valB_lt 8 (s.data.toList.map UInt8.toNat) (by
    intro x hx
    obtain ⟨c, _, rfl⟩ := List.mem_map.mp hx
    exact c.toNat_lt)
  rw [List.length_map, Array.length_toList, Nat.pow_mul] at h
  exact h
theorem bt_bnum (s : ByteArray) (j : Nat) (h : j < s.size) : bt s (j : Int) = ((bnum s / 256 ^ j % 256 : Nat) : Int) := by
  have h2 := valB_piece 8 (s.data.toList.map UInt8.toNat) (by
    intro x hx
    obtain ⟨c, _, rfl⟩ := List.mem_map.mp hx
    exact c.toNat_lt) j (by simpa using h)
  rw [Nat.pow_mul] at h2
  unfold bnum
  rw [show (256 : Nat) = 2 ^ 8 from rfl, h2]
  unfold bt
  rw [dif_pos (by simpa using h)]
  simp
  rfl
theorem strOfNums_get (xs : List Int) (i : Nat) (h : i < (strOfNums xs).size) : (strOfNums xs)[i] = UInt8.ofNat (xs[i]'(by simpa [strOfNums_size] using h)).toNat := by
  simp [strOfNums, ByteArray.getElem_eq_getElem_data]
theorem bytes_ext {s t : ByteArray} (h : s.data.toList = t.data.toList) : s = t := by
  cases s; cases t; congr 1; exact Array.toList_inj.mp h
theorem bytes_toList {s t : ByteArray} : s.toList = t.toList ↔ s = t := by
  constructor
  · intro h
    refine bytes_ext ?_
    simpa [← ByteArray.toList_eq] using h
  · rintro rfl; rfl
theorem strOf_bnum (s : ByteArray) : strOfNums (bytesL s.size (bnum s)) = s := by
  refine bytes_ext ?_
  rw [strOfNums_data]
  apply List.ext_getElem
  · simp [bytesL]
  · intro j h1 h2
    have hj : j < s.size := by simpa [bytesL] using h1
    have h3 := bt_bnum s j hj
    rw [List.getElem_map, bytesL_get, ← h3]
    unfold bt
    rw [dif_pos (by simpa using hj)]
    simp
    rfl
theorem strOf_inj {L S T : Nat} (hS : S < 256 ^ L) (hT : T < 256 ^ L) (h : strOfNums (bytesL L S) = strOfNums (bytesL L T)) : S = T := by
  have key : ∀ L S T : Nat, S < 256 ^ L → T < 256 ^ L → (∀ j, j < L → S / 256 ^ j % 256 = T / 256 ^ j % 256) → S = T := by
    intro L
    induction L with
    | zero => intro S T h1 h2 _; simp at h1 h2; omega
    | succ L ih =>
      intro S T h1 h2 h3
      have e0 := h3 0 (by omega)
      simp only [Nat.pow_zero, Nat.div_one] at e0
      have e1 := ih (S / 256) (T / 256) (by rw [Nat.pow_succ] at h1; omega) (by rw [Nat.pow_succ] at h2; omega) (fun j hj => by
        have := h3 (j + 1) (by omega)
        rw [Nat.pow_succ, Nat.mul_comm, ← Nat.div_div_eq_div_mul, ← Nat.div_div_eq_div_mul] at this
        exact this)
      omega
  refine key L S T hS hT fun j hj => ?_
  have h4 := congrArg (fun s : ByteArray => s.data.toList[j]?) h
  simp only [strOfNums_data] at h4
  rw [List.getElem?_eq_getElem (by simpa [bytesL] using hj), List.getElem?_eq_getElem (by simpa [bytesL] using hj), List.getElem_map, List.getElem_map, bytesL_get, bytesL_get] at h4
  injection h4 with h4
  have h5 := congrArg UInt8.toNat h4
  rw [Int.toNat_natCast, Int.toNat_natCast] at h5
  simpa using h5
end Go.Proofs.Ytcpgpjggnghpdaa.Pure
