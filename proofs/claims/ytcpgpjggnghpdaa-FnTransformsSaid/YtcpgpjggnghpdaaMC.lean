/- Pack, of the program and of the reference: the bytes of one great number. -/
import Derived.Test.YtcpgpjggnghpdaaMQ
import Derived.Test.YtcpgpjggnghpdaaMB
import Derived.Test.YtcpgpjggnghpdaaPx22
namespace Go.Proofs.Ytcpgpjggnghpdaa.Pure
open Go.RowKit Go.Proofs.YtcpgpjggnghpdaaW.PrintWords Go.Proofs.YtcpgpjggnghpdaaW.PrintLast Go.Proofs.YtcpgpjggnghpdaaW.PrintMore Go.Proofs.Ytcpgpjggnghpdaa.P

def natL (l : List Int) : List Nat := l.map Int.toNat
theorem natL_length (l : List Int) : (natL l).length = l.length := by simp [natL]
theorem natL_take (l : List Int) (i : Nat) : natL (l.take i) = (natL l).take i := by simp [natL]
def packV (b : Nat) (l : List Int) : ByteArray := strOfNums (bytesL ((l.length * b + 7) / 8) (valB b (natL l)))
def fitsB (b : Nat) (x : Int) : Bool := decide (0 ≤ x ∧ x ≤ 2 ^ b - 1)
def packR (l : List Int) (b : Int) : ByteArray × Bool :=
  if (1 ≤ b ∧ b ≤ 12) ∧ l.all (fitsB b.toNat) = true then (packV b.toNat l, true) else (⟨#[]⟩, false)

theorem fits_nat {b : Nat} {l : List Int} (h : l.all (fitsB b) = true) : ∀ x ∈ natL l, x < 2 ^ b := by
  intro x hx
  obtain ⟨y, hy, rfl⟩ := List.mem_map.mp hx
  have h2 := of_decide_eq_true (List.all_eq_true.mp h y hy)
  have h3 : ((2 ^ b : Nat) : Int) = (2 : Int) ^ b := by simp
  omega
/-- The first i numbers, as one. -/
def valT (b : Nat) (l : List Int) (i : Nat) : Nat := valB b ((natL l).take i)
theorem valT_succ (b : Nat) (l : List Int) (i : Nat) (h : i < l.length) : valT b l (i + 1) = valT b l i + 2 ^ (b * i) * l[i].toNat := by
  unfold valT
  rw [valB_take_succ b (natL l) i (by rw [natL_length]; exact h)]
  simp [natL]
theorem valT_lt {b : Nat} {l : List Int} (h : l.all (fitsB b) = true) (i : Nat) (hi : i ≤ l.length) : valT b l i < 2 ^ (b * i) := by
  have := valB_lt b ((natL l).take i) fun x hx => fits_nat h x (List.mem_of_mem_take hx)
  rw [List.length_take, natL_length, Nat.min_eq_left hi] at this
  exact this
theorem valT_all (b : Nat) (l : List Int) : valT b l l.length = valB b (natL l) := by
  unfold valT; rw [List.take_of_length_le (by rw [natL_length]; exact Nat.le_refl _)]
theorem get_nat {b : Nat} {l : List Int} (h : l.all (fitsB b) = true) (i : Nat) (hi : i < l.length) : ∃ n : Nat, l[i] = (n : Int) ∧ n < 2 ^ b := by
  have h2 := of_decide_eq_true (List.all_eq_true.mp h l[i] (List.getElem_mem hi))
  have h3 : ((2 ^ b : Nat) : Int) = (2 : Int) ^ b := by simp
  exact ⟨l[i].toNat, by omega, by omega⟩

theorem tdiv_nat (m c : Nat) : Int.tdiv (m : Int) (c : Int) = ((m / c : Nat) : Int) := by
  rw [Int.tdiv_eq_ediv_of_nonneg (by omega)]; rfl
theorem tmod_nat (m c : Nat) : Int.tmod (m : Int) (c : Int) = ((m % c : Nat) : Int) := by
  rw [Int.tmod_eq_emod_of_nonneg (by omega)]; rfl
theorem tdiv8 (m : Nat) : Int.tdiv (m : Int) 8 = ((m / 8 : Nat) : Int) := tdiv_nat m 8
theorem tmod8 (m : Nat) : Int.tmod (m : Int) 8 = ((m % 8 : Nat) : Int) := tmod_nat m 8
theorem w64n (m : Nat) (h : m ≤ 9223372036854775807) : wrap64 (m : Int) = (m : Int) := w64 (by omega) (by omega)
theorem i64_and1 (n : Nat) (h : n < 2 ^ 62) : Go.bits .and .i64 (n : Int) 1 = ((n % 2 : Nat) : Int) := by
  have := bits_mask .i64 63 (by decide) (fun n h0 h1 => by rw [IntKind.wrap_i64]; omega) 1 (by decide) (n : Int) (by omega) (by
    have : ((2 ^ 62 : Nat) : Int) = 2 ^ 62 := by simp
    omega)
  simpa using this
theorem u8_and1 (n : Nat) (h : n < 256) : Go.bits .and .u8 (n : Int) 1 = ((n % 2 : Nat) : Int) := by
  have := bits_mask .u8 8 (by decide) wraps_u8 1 (by decide) (n : Int) (by omega) (by omega)
  simpa using this
theorem u8_or_bit (a t b : Nat) (ha : a < 2 ^ t) (ht : t ≤ 7) (hb : b ≤ 1) : Go.bits .or .u8 (a : Int) ((b * 2 ^ t : Nat) : Int) = ((a + b * 2 ^ t : Nat) : Int) := by
  have h7 : 2 ^ t ≤ 128 := Nat.pow_le_pow_right (n := 2) (by omega) ht
  have hb2 : b * 2 ^ t ≤ 2 ^ t := by
    have := Nat.mul_le_mul_right (2 ^ t) hb
    omega
  rw [(bits_nat .u8 8 (by decide) wraps_u8 a (b * 2 ^ t) (by omega) (by omega)).2, Nat.or_comm, Nat.mul_comm b, ← Nat.two_pow_add_eq_or_of_lt ha b, Nat.add_comm]
theorem shl_u8_bit (b t : Nat) (ht : t ≤ 7) (hb : b ≤ 1) : shl .u8 (b : Int) (t : Int) = ((b * 2 ^ t : Nat) : Int) := by
  have h7 : 2 ^ t ≤ 128 := Nat.pow_le_pow_right (n := 2) (by omega) ht
  have hb2 : b * 2 ^ t ≤ 2 ^ t := by
    have := Nat.mul_le_mul_right (2 ^ t) hb
    omega
  unfold shl
  rw [Int.toNat_natCast, show min t IntKind.u8.bits = t by simp [IntKind.bits]; omega, IntKind.wrap_u8]
  have : ((b * 2 ^ t : Nat) : Int) = (b : Int) * 2 ^ t := by simp
  omega
theorem shr_nat (k : IntKind) (n t : Nat) (ht : t ≤ k.bits) : shr k (n : Int) (t : Int) = ((n / 2 ^ t : Nat) : Int) := by
  unfold shr
  rw [Int.toNat_natCast, Nat.min_eq_left ht]
  simp
theorem mod_succ_bit (x k : Nat) : x % 2 ^ (k + 1) = x % 2 ^ k + 2 ^ k * (x / 2 ^ k % 2) := by
  rw [Nat.pow_succ, Nat.mod_mul]

theorem packed_bit (L V b i j x : Nat) (hV : V < 2 ^ (b * i)) :
    (bytesL L (V + 2 ^ (b * i) * (x % 2 ^ j))).set ((i * b + j) / 8) (Go.bits .or .u8 (((V + 2 ^ (b * i) * (x % 2 ^ j)) / 256 ^ ((i * b + j) / 8) % 256 : Nat) : Int) (shl .u8 (((x / 2 ^ j % 2 : Nat) : Int) % 256) (((i * b + j) % 8 : Nat) : Int)))
      = bytesL L (V + 2 ^ (b * i) * (x % 2 ^ (j + 1))) := by
  obtain ⟨m, hm⟩ : ∃ m, i * b + j = m := ⟨_, rfl⟩
  have hmb : b * i + j = m := by rw [← hm, Nat.mul_comm]
  obtain ⟨S, hSe⟩ : ∃ S, V + 2 ^ (b * i) * (x % 2 ^ j) = S := ⟨_, rfl⟩
  obtain ⟨u, hu⟩ : ∃ u, x / 2 ^ j % 2 = u := ⟨_, rfl⟩
  have hu1 : u ≤ 1 := by omega
  have hS : S < 2 ^ m := by
    have h1 : x % 2 ^ j < 2 ^ j := Nat.mod_lt _ (Nat.two_pow_pos j)
    have h2 : 2 ^ (b * i) * (x % 2 ^ j) + 2 ^ (b * i) ≤ 2 ^ (b * i) * 2 ^ j := by rw [← Nat.mul_succ]; exact Nat.mul_le_mul_left _ h1
    rw [← hSe, ← hmb, Nat.pow_add]
    exact Nat.lt_of_lt_of_le (Nat.lt_of_lt_of_le (Nat.add_lt_add_right hV _) (by rw [Nat.add_comm]; exact Nat.le_refl _)) h2
  have hnext : V + 2 ^ (b * i) * (x % 2 ^ (j + 1)) = S + u * 2 ^ m := by
    rw [mod_succ_bit, Nat.mul_add, ← hSe, ← hmb, hu, Nat.pow_add, Nat.mul_comm u, Nat.mul_assoc, Nat.add_assoc]
  have hold : S / 256 ^ (m / 8) < 2 ^ (m % 8) := by
    rw [Nat.div_lt_iff_lt_mul (Nat.pow_pos (by omega)), pow256, ← Nat.pow_add, show m % 8 + 8 * (m / 8) = m by omega]; exact hS
  have h128 : 2 ^ (m % 8) ≤ 128 := Nat.pow_le_pow_right (n := 2) (by omega) (show m % 8 ≤ 7 by omega)
  have hset := bytesL_bit L S m u hS hu1
  rw [hm, hSe, hnext, hu, show ((u : Nat) : Int) % 256 = ((u : Nat) : Int) by omega, shl_u8_bit u (m % 8) (by omega) hu1, Nat.mod_eq_of_lt (Nat.lt_of_lt_of_le hold (Nat.le_trans h128 (by omega))), u8_or_bit _ (m % 8) u hold (by omega) hu1]
  rw [Nat.mod_eq_of_lt (Nat.lt_of_lt_of_le hold (Nat.le_trans h128 (by omega)))] at hset
  exact hset

theorem impl_packed_in (l : List Int) (b : Nat) (hb1 : 1 ≤ b) (hb : b ≤ 12) (hl : l.length ≤ 1099511627776) (hf : l.all (fitsB b) = true) (i : Nat) (hi : i < l.length) {r : ByteArray}
    (h : Ev (fun k => impl_packed.l0 k (b : Int) (bytesL ((l.length * b + 7) / 8) (valT b l (i + 1))) l (l.length : Int) ((i + 1 : Nat) : Int)) r) :
    Ev (fun k => impl_packed.l1 k (b : Int) (bytesL ((l.length * b + 7) / 8) (valT b l i)) (i : Int) l[i] l (l.length : Int) (i : Int) (b : Int) 0) r := by
  obtain ⟨x, hx, hxb⟩ := get_nat hf i hi
  have hib : i * b + b ≤ l.length * b := by rw [← Nat.succ_mul]; exact Nat.mul_le_mul_right _ hi
  have hlb : l.length * b ≤ 13194139533312 := Nat.le_trans (Nat.mul_le_mul_left _ hb) (by omega)
  have hV := valT_lt hf i (by omega)
  have h12 : 2 ^ b ≤ 4096 := Nat.pow_le_pow_right (n := 2) (by omega) hb
  have hx12 : x < 4096 := by omega
  have e := Ev.up (g := fun j k => impl_packed.l1 k (b : Int) (bytesL ((l.length * b + 7) / 8) (valT b l i + 2 ^ (b * i) * (x % 2 ^ j))) (i : Int) l[i] l (l.length : Int) (i : Int) (b : Int) (j : Int)) (r := r) b ?_ ?_ 0 (by omega)
  · simpa [Nat.mod_one] using e
  · intro j hj h'
    refine Ev.step (fun k => ?_) h'
    have n1 : i * b ≤ 9223372036854775807 := by clear hV hx h h12; omega
    have n2 : i * b + j ≤ 9223372036854775807 := by clear hV hx h h12; omega
    have n3 : (i * b + j) / 8 ≤ 9223372036854775807 := by clear hV hx h h12; omega
    have q0 : (i * b + j) / 8 < (l.length * b + 7) / 8 := by clear hV hx h h12; omega
    have q1 : (((i * b + j) / 8 : Nat) : Int) < (((l.length * b + 7) / 8 : Nat) : Int) := Int.ofNat_lt.mpr q0
    have j64 : j ≤ IntKind.i64.bits := by clear hV hx h h12; simp [IntKind.bits]; omega
    have jw := w64s j (by clear hV hx h h12; omega)
    have e1 : wrap64 ((wrap64 ((i : Int) * (b : Int))) + (j : Int)) = ((i * b + j : Nat) : Int) := by
      have e0 : (i : Int) * (b : Int) = ((i * b : Nat) : Int) := by simp
      rw [e0, w64n (i * b) n1]
      exact w64n (i * b + j) n2
    have e2 : wrap64 (((i * b + j) / 8 : Nat) : Int) = (((i * b + j) / 8 : Nat) : Int) := w64n _ n3
    have e3 : Go.bits .and .i64 ((x / 2 ^ j : Nat) : Int) 1 = ((x / 2 ^ j % 2 : Nat) : Int) := i64_and1 _ (Nat.lt_of_le_of_lt (Nat.div_le_self _ _) (Nat.lt_trans hx12 (by decide)))
    have e4 := packed_bit ((l.length * b + 7) / 8) (valT b l i) b i j x hV
    simp only [impl_packed.l1]
    rw [e1, tdiv8, tmod8, e2, if_pos (Int.ofNat_lt.mpr hj), if_pos (Int.natCast_nonneg _), if_pos (by rw [bytesL_length]; exact q1), if_pos (Int.natCast_nonneg _), if_pos (Int.natCast_nonneg _), Int.toNat_natCast,
      rd_get _ _ (by rw [bytesL_length]; exact q0), bytesL_get, hx, shr_nat .i64 x j j64, e3, e4, jw]
  · refine Ev.step (f := fun k => impl_packed.l0 k (b : Int) (bytesL ((l.length * b + 7) / 8) (valT b l (i + 1))) l (l.length : Int) ((i + 1 : Nat) : Int)) (fun k => ?_) h
    simp only [impl_packed.l1]
    rw [if_neg (by omega), w64s i (by omega), valT_succ b l i hi, Nat.mod_eq_of_lt hxb, hx, Int.toNat_natCast]

theorem impl_packed_ev (l : List Int) (b : Nat) (hb1 : 1 ≤ b) (hb : b ≤ 12) (hl : l.length ≤ 1099511627776) (hf : l.all (fitsB b) = true) : Ev (fun k => impl_packed.f k l (b : Int)) (packV b l) := by
  have hlb : l.length * b ≤ 13194139533312 := Nat.le_trans (Nat.mul_le_mul_left _ hb) (by omega)
  have e1 : wrap64 (Int.tdiv (wrap64 ((wrap64 ((l.length : Int) * (b : Int))) + 7)) 8) = (((l.length * b + 7) / 8 : Nat) : Int) := by
    have e0 : (l.length : Int) * (b : Int) = ((l.length * b : Nat) : Int) := by simp
    rw [e0, w64n (l.length * b) (by omega), show ((l.length * b : Nat) : Int) + 7 = ((l.length * b + 7 : Nat) : Int) by omega, w64n (l.length * b + 7) (by omega), tdiv8, w64n ((l.length * b + 7) / 8) (by omega)]
  unfold impl_packed.f packV
  rw [e1, Int.toNat_natCast]
  refine Ev.pos (by omega) (Ev.pos (by omega) ?_)
  rw [← valT_all]
  have h := Ev.up (g := fun i k => impl_packed.l0 k (b : Int) (bytesL ((l.length * b + 7) / 8) (valT b l i)) l (l.length : Int) (i : Int)) (r := strOfNums (bytesL ((l.length * b + 7) / 8) (valT b l l.length))) l.length ?_ ?_ 0 (by omega)
  · simpa [valT, valB, bytesL_zero] using h
  · intro i hi h
    refine Ev.step (fun k => ?_) (impl_packed_in l b hb1 hb hl hf i hi h)
    simp only [impl_packed.l0]
    rw [if_pos (by omega), if_pos (by omega), if_pos (by omega), rd_get l i hi]
  · refine Ev.step (f := fun _ => some (strOfNums (bytesL ((l.length * b + 7) / 8) (valT b l l.length)))) (fun k => ?_) (Ev.now _)
    simp only [impl_packed.l0]
    rw [if_neg (by omega)]

theorem two_nat (b : Int) (h : 0 ≤ b) : ((b.toNat : Nat) : Int) = b := by omega
theorem not_all {α : Type} {p : α → Bool} {l : List α} (h : ¬ l.all p = true) : ∃ i, ∃ h : i < l.length, p l[i] = false := by
  rw [List.all_eq_true] at h
  simp only [Classical.not_forall] at h
  obtain ⟨x, hx, hp⟩ := h
  obtain ⟨i, hi, rfl⟩ := List.mem_iff_getElem.mp hx
  exact ⟨i, hi, by simpa using hp⟩
end Go.Proofs.Ytcpgpjggnghpdaa.Pure
