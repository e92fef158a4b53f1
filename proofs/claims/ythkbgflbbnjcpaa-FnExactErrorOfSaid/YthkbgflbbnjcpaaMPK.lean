/- Pack, of the program and of the reference: the bytes of one great number. Pack, of the program and of the reference. Unpack, of the program and of the reference: the pieces of the number that the bytes write. PolyFrom, of the program and of the reference. PolyBytes, of the program and of the reference. -/
import Derived.Test.YthkbgflbbnjcpaaMQ
import Derived.Test.YthkbgflbbnjcpaaMKB
import Derived.Test.YthkbgflbbnjcpaaPx1
import Derived.Test.YthkbgflbbnjcpaaPx10
import Derived.Test.YthkbgflbbnjcpaaPx11
import Derived.Test.YthkbgflbbnjcpaaPx19
namespace Go.Proofs.Ythkbgflbbnjcpaa.Pure
open Go.RowKit Go.Proofs.YthkbgflbbnjcpaaW.PrintWords Go.Proofs.YthkbgflbbnjcpaaW.PrintLast Go.Proofs.YthkbgflbbnjcpaaW.PrintMore Go.Proofs.Ythkbgflbbnjcpaa.P

def natL (l : List Int) : List Nat := l.map Int.toNat
theorem natL_length (l : List Int) : (natL l).length = l.length := by simp [natL]
theorem natL_take (l : List Int) (i : Nat) : natL (l.take i) = (natL l).take i := by simp [natL]
def packV (b : Nat) (l : List Int) : ByteArray := strOfNums (bytesL ((l.length * b + 7) / 8) (valB b (natL l)))
def fitsB (b : Nat) (x : Int) : Bool := decide (0 ≤ x ∧ x ≤ 2 ^ b - 1)
def packR (l : List Int) (b : Int) : ByteArray × Bool :=
  if (1 ≤ b ∧ b ≤ 12) ∧ l.all (fitsB b.toNat) = true then (packV b.toNat l, true) else (⟨#[]⟩, false)

theorem fits_nat {b : Nat} {l : List Int} (h : l.all (fitsB b) = true) : ∀ x ∈ natL l, x < 2 ^ b := by
  intro x hx
  obtain ⟨y, hy, rfl⟩ := List.mem_map.mp hx
  have h2 := of_decide_eq_true (List.all_eq_true.mp h y hy)
  have h3 : ((2 ^ b : Nat) : Int) = (2 : Int) ^ b := by simp
  omega
/-- The first i numbers, as one. -/
def valT (b : Nat) (l : List Int) (i : Nat) : Nat := valB b ((natL l).take i)
theorem valT_succ (b : Nat) (l : List Int) (i : Nat) (h : i < l.length) : valT b l (i + 1) = valT b l i + 2 ^ (b * i) * l[i].toNat := by
  unfold valT
  rw [valB_take_succ b (natL l) i (by rw [natL_length]; exact h)]
  simp [natL]
theorem valT_lt {b : Nat} {l : List Int} (h : l.all (fitsB b) = true) (i : Nat) (hi : i ≤ l.length) : valT b l i < 2 ^ (b * i) := by
  have := valB_lt b ((natL l).take i) fun x hx => fits_nat h x (List.mem_of_mem_take hx)
  rw [List.length_take, natL_length, Nat.min_eq_left hi] at this
  exact this
theorem valT_all (b : Nat) (l : List Int) : valT b l l.length = valB b (natL l) := by
  unfold valT; rw [List.take_of_length_le (by rw [natL_length]; exact Nat.le_refl _)]
theorem get_nat {b : Nat} {l : List Int} (h : l.all (fitsB b) = true) (i : Nat) (hi : i < l.length) : ∃ n : Nat, l[i] = (n : Int) ∧ n < 2 ^ b := by
  have h2 := of_decide_eq_true (List.all_eq_true.mp h l[i] (List.getElem_mem hi))
  have h3 : ((2 ^ b : Nat) : Int) = (2 : Int) ^ b := by simp
  exact ⟨l[i].toNat, by omega, by omega⟩

theorem tdiv_nat (m c : Nat) : Int.tdiv (m : Int) (c : Int) = ((m / c : Nat) : Int) := by
  rw [Int.tdiv_eq_ediv_of_nonneg (by omega)]; rfl
theorem tmod_nat (m c : Nat) : Int.tmod (m : Int) (c : Int) = ((m % c : Nat) : Int) := by
  rw [Int.tmod_eq_emod_of_nonneg (by omega)]; rfl
theorem tdiv8 (m : Nat) : Int.tdiv (m : Int) 8 = ((m / 8 : Nat) : Int) := tdiv_nat m 8
theorem tmod8 (m : Nat) : Int.tmod (m : Int) 8 = ((m % 8 : Nat) : Int) := tmod_nat m 8
theorem w64n (m : Nat) (h : m ≤ 9223372036854775807) : wrap64 (m : Int) = (m : Int) := w64 (by omega) (by omega)
theorem i64_and1 (n : Nat) (h : n < 2 ^ 62) : Go.bits .and .i64 (n : Int) 1 = ((n % 2 : Nat) : Int) := by
  have := bits_mask .i64 63 (by decide) (fun n h0 h1 => by rw [IntKind.wrap_i64]; omega) 1 (by decide) (n : Int) (by omega) (by
    have : ((2 ^ 62 : Nat) : Int) = 2 ^ 62 := by simp
    omega)
  simpa using this
theorem u8_and1 (n : Nat) (h : n < 256) : Go.bits .and .u8 (n : Int) 1 = ((n % 2 : Nat) : Int) := by
  have := bits_mask .u8 8 (by decide) wraps_u8 1 (by decide) (n : Int) (by omega) (by omega)
  simpa using this
theorem u8_or_bit (a t b : Nat) (ha : a < 2 ^ t) (ht : t ≤ 7) (hb : b ≤ 1) : Go.bits .or .u8 (a : Int) ((b * 2 ^ t : Nat) : Int) = ((a + b * 2 ^ t : Nat) : Int) := by
  have h7 : 2 ^ t ≤ 128 := Nat.pow_le_pow_right (n := 2) (by omega) ht
  have hb2 : b * 2 ^ t ≤ 2 ^ t := by
    have := Nat.mul_le_mul_right (2 ^ t) hb
    omega
  rw [(bits_nat .u8 8 (by decide) wraps_u8 a (b * 2 ^ t) (by omega) (by omega)).2, Nat.or_comm, Nat.mul_comm b, ← Nat.two_pow_add_eq_or_of_lt ha b, Nat.add_comm]
theorem shl_u8_bit (b t : Nat) (ht : t ≤ 7) (hb : b ≤ 1) : shl .u8 (b : Int) (t : Int) = ((b * 2 ^ t : Nat) : Int) := by
  have h7 : 2 ^ t ≤ 128 := Nat.pow_le_pow_right (n := 2) (by omega) ht
  have hb2 : b * 2 ^ t ≤ 2 ^ t := by
    have := Nat.mul_le_mul_right (2 ^ t) hb
    omega
  unfold shl
  rw [Int.toNat_natCast, show min t IntKind.u8.bits = t by simp [IntKind.bits]; omega, IntKind.wrap_u8]
  have : ((b * 2 ^ t : Nat) : Int) = (b : Int) * 2 ^ t := by simp
  omega
theorem shr_nat (k : IntKind) (n t : Nat) (ht : t ≤ k.bits) : shr k (n : Int) (t : Int) = ((n / 2 ^ t : Nat) : Int) := by
  unfold shr
  rw [Int.toNat_natCast, Nat.min_eq_left ht]
  simp
theorem mod_succ_bit (x k : Nat) : x % 2 ^ (k + 1) = x % 2 ^ k + 2 ^ k * (x / 2 ^ k % 2) := by
  rw [Nat.pow_succ, Nat.mod_mul]

theorem packed_bit (L V b i j x : Nat) (hV : V < 2 ^ (b * i)) :
    (bytesL L (V + 2 ^ (b * i) * (x % 2 ^ j))).set ((i * b + j) / 8) (Go.bits .or .u8 (((V + 2 ^ (b * i) * (x % 2 ^ j)) / 256 ^ ((i * b + j) / 8) % 256 : Nat) : Int) (shl .u8 (((x / 2 ^ j % 2 : Nat) : Int) % 256) (((i * b + j) % 8 : Nat) : Int)))
      = bytesL L (V + 2 ^ (b * i) * (x % 2 ^ (j + 1))) := by
  obtain ⟨m, hm⟩ : ∃ m, i * b + j = m := ⟨_, rfl⟩
  have hmb : b * i + j = m := by rw [← hm, Nat.mul_comm]
  obtain ⟨S, hSe⟩ : ∃ S, V + 2 ^ (b * i) * (x % 2 ^ j) = S := ⟨_, rfl⟩
  obtain ⟨u, hu⟩ : ∃ u, x / 2 ^ j % 2 = u := ⟨_, rfl⟩
  have hu1 : u ≤ 1 := by omega
  have hS : S < 2 ^ m := by
    have h1 : x % 2 ^ j < 2 ^ j := Nat.mod_lt _ (Nat.two_pow_pos j)
    have h2 : 2 ^ (b * i) * (x % 2 ^ j) + 2 ^ (b * i) ≤ 2 ^ (b * i) * 2 ^ j := by rw [← Nat.mul_succ]; exact Nat.mul_le_mul_left _ h1
    rw [← hSe, ← hmb, Nat.pow_add]
    exact Nat.lt_of_lt_of_le (Nat.lt_of_lt_of_le (Nat.add_lt_add_right hV _) (by rw [Nat.add_comm]; exact Nat.le_refl _)) h2
  have hnext : V + 2 ^ (b * i) * (x % 2 ^ (j + 1)) = S + u * 2 ^ m := by
    rw [mod_succ_bit, Nat.mul_add, ← hSe, ← hmb, hu, Nat.pow_add, Nat.mul_comm u, Nat.mul_assoc, Nat.add_assoc]
  have hold : S / 256 ^ (m / 8) < 2 ^ (m % 8) := by
    rw [Nat.div_lt_iff_lt_mul (Nat.pow_pos (by omega)), pow256, ← Nat.pow_add, show m % 8 + 8 * (m / 8) = m by omega]; exact hS
  have h128 : 2 ^ (m % 8) ≤ 128 := Nat.pow_le_pow_right (n := 2) (by omega) (show m % 8 ≤ 7 by omega)
  have hset := bytesL_bit L S m u hS hu1
  rw [hm, hSe, hnext, hu, show ((u : Nat) : Int) % 256 = ((u : Nat) : Int) by omega, shl_u8_bit u (m % 8) (by omega) hu1, Nat.mod_eq_of_lt (Nat.lt_of_lt_of_le hold (Nat.le_trans h128 (by omega))), u8_or_bit _ (m % 8) u hold (by omega) hu1]
  rw [Nat.mod_eq_of_lt (Nat.lt_of_lt_of_le hold (Nat.le_trans h128 (by omega)))] at hset
  exact hset

theorem impl_packed_in (l : List Int) (b : Nat) (hb1 : 1 ≤ b) (hb : b ≤ 12) (hl : l.length ≤ 1099511627776) (hf : l.all (fitsB b) = true) (i : Nat) (hi : i < l.length) {r : ByteArray}
    (h : Ev (fun k => impl_packed.l0 k (b : Int) (bytesL ((l.length * b + 7) / 8) (valT b l (i + 1))) l (l.length : Int) ((i + 1 : Nat) : Int)) r) :
    Ev (fun k => impl_packed.l1 k (b : Int) (bytesL ((l.length * b + 7) / 8) (valT b l i)) (i : Int) l[i] l (l.length : Int) (i : Int) (b : Int) 0) r := by
  obtain ⟨x, hx, hxb⟩ := get_nat hf i hi
  have hib : i * b + b ≤ l.length * b := by rw [← Nat.succ_mul]; exact Nat.mul_le_mul_right _ hi
  have hlb : l.length * b ≤ 13194139533312 := Nat.le_trans (Nat.mul_le_mul_left _ hb) (by omega)
  have hV := valT_lt hf i (by omega)
  have h12 : 2 ^ b ≤ 4096 := Nat.pow_le_pow_right (n := 2) (by omega) hb
  have hx12 : x < 4096 := by omega
  have e := Ev.up (g := fun j k => impl_packed.l1 k (b : Int) (bytesL ((l.length * b + 7) / 8) (valT b l i + 2 ^ (b * i) * (x % 2 ^ j))) (i : Int) l[i] l (l.length : Int) (i : Int) (b : Int) (j : Int)) (r := r) b ?_ ?_ 0 (by omega)
  · simpa [Nat.mod_one] using e
  · intro j hj h'
    refine Ev.step (fun k => ?_) h'
    have n1 : i * b ≤ 9223372036854775807 := by clear hV hx h h12; omega
    have n2 : i * b + j ≤ 9223372036854775807 := by clear hV hx h h12; omega
    have n3 : (i * b + j) / 8 ≤ 9223372036854775807 := by clear hV hx h h12; omega
    have q0 : (i * b + j) / 8 < (l.length * b + 7) / 8 := by clear hV hx h h12; omega
    have q1 : (((i * b + j) / 8 : Nat) : Int) < (((l.length * b + 7) / 8 : Nat) : Int) := Int.ofNat_lt.mpr q0
    have j64 : j ≤ IntKind.i64.bits := by clear hV hx h h12; simp [IntKind.bits]; omega
    have jw := w64s j (by clear hV hx h h12; omega)
    have e1 : wrap64 ((wrap64 ((i : Int) * (b : Int))) + (j : Int)) = ((i * b + j : Nat) : Int) := by
      have e0 : (i : Int) * (b : Int) = ((i * b : Nat) : Int) := by simp
      rw [e0, w64n (i * b) n1]
      exact w64n (i * b + j) n2
    have e2 : wrap64 (((i * b + j) / 8 : Nat) : Int) = (((i * b + j) / 8 : Nat) : Int) := w64n _ n3
    have e3 : Go.bits .and .i64 ((x / 2 ^ j : Nat) : Int) 1 = ((x / 2 ^ j % 2 : Nat) : Int) := i64_and1 _ (Nat.lt_of_le_of_lt (Nat.div_le_self _ _) (Nat.lt_trans hx12 (by decide)))
    have e4 := packed_bit ((l.length * b + 7) / 8) (valT b l i) b i j x hV
    simp only [impl_packed.l1]
    rw [e1, tdiv8, tmod8, e2, if_pos (Int.ofNat_lt.mpr hj), if_pos (Int.natCast_nonneg _), if_pos (by rw [bytesL_length]; exact q1), if_pos (Int.natCast_nonneg _), if_pos (Int.natCast_nonneg _), Int.toNat_natCast,
      rd_get _ _ (by rw [bytesL_length]; exact q0), bytesL_get, hx, shr_nat .i64 x j j64, e3, e4, jw]
  · refine Ev.step (f := fun k => impl_packed.l0 k (b : Int) (bytesL ((l.length * b + 7) / 8) (valT b l (i + 1))) l (l.length : Int) ((i + 1 : Nat) : Int)) (fun k => ?_) h
    simp only [impl_packed.l1]
    rw [if_neg (by omega), w64s i (by omega), valT_succ b l i hi, Nat.mod_eq_of_lt hxb, hx, Int.toNat_natCast]

theorem impl_packed_ev (l : List Int) (b : Nat) (hb1 : 1 ≤ b) (hb : b ≤ 12) (hl : l.length ≤ 1099511627776) (hf : l.all (fitsB b) = true) : Ev (fun k => impl_packed.f k l (b : Int)) (packV b l) := by
  have hlb : l.length * b ≤ 13194139533312 := Nat.le_trans (Nat.mul_le_mul_left _ hb) (by omega)
  have e1 : wrap64 (Int.tdiv (wrap64 ((wrap64 ((l.length : Int) * (b : Int))) + 7)) 8) = (((l.length * b + 7) / 8 : Nat) : Int) := by
    have e0 : (l.length : Int) * (b : Int) = ((l.length * b : Nat) : Int) := by simp
    rw [e0, w64n (l.length * b) (by omega), show ((l.length * b : Nat) : Int) + 7 = ((l.length * b + 7 : Nat) : Int) by omega, w64n (l.length * b + 7) (by omega), tdiv8, w64n ((l.length * b + 7) / 8) (by omega)]
  unfold impl_packed.f packV
  rw [e1, Int.toNat_natCast]
  refine Ev.pos (by omega) (Ev.pos (by omega) ?_)
  rw [← valT_all]
  have h := Ev.up (g := fun i k => impl_packed.l0 k (b : Int) (bytesL ((l.length * b + 7) / 8) (valT b l i)) l (l.length : Int) (i : Int)) (r := strOfNums (bytesL ((l.length * b + 7) / 8) (valT b l l.length))) l.length ?_ ?_ 0 (by omega)
  · simpa [valT, valB, bytesL_zero] using h
  · intro i hi h
    refine Ev.step (fun k => ?_) (impl_packed_in l b hb1 hb hl hf i hi h)
    simp only [impl_packed.l0]
    rw [if_pos (by omega), if_pos (by omega), if_pos (by omega), rd_get l i hi]
  · refine Ev.step (f := fun _ => some (strOfNums (bytesL ((l.length * b + 7) / 8) (valT b l l.length)))) (fun k => ?_) (Ev.now _)
    simp only [impl_packed.l0]
    rw [if_neg (by omega)]

theorem two_nat (b : Int) (h : 0 ≤ b) : ((b.toNat : Nat) : Int) = b := by omega
theorem not_all {α : Type} {p : α → Bool} {l : List α} (h : ¬ l.all p = true) : ∃ i, ∃ h : i < l.length, p l[i] = false := by
  rw [List.all_eq_true] at h
  simp only [Classical.not_forall] at h
  obtain ⟨x, hx, hp⟩ := h
  obtain ⟨i, hi, rfl⟩ := List.mem_iff_getElem.mp hx
  exact ⟨i, hi, by simpa using hp⟩

set_option maxHeartbeats 1000000 in
theorem spec_Pack_l2 (l : List Int) (b : Nat) (hb1 : 1 ≤ b) (hb : b ≤ 12) (hl : l.length ≤ 1099511627776) (hf : l.all (fitsB b) = true) (i : Nat) (hi : i < l.length) {r : ByteArray × Bool}
    (h : Ev (fun k => spec_Pack.l1 k l (b : Int) (bytesL (b * (i + 1) / 8) (valT b l (i + 1))) ((valT b l (i + 1) / 256 ^ (b * (i + 1) / 8) : Nat) : Int) ((b * (i + 1) % 8 : Nat) : Int) ((i + 1 : Nat) : Int)) r) :
    Ev (fun k => spec_Pack.l2 k l (b : Int) (bytesL (b * i / 8) (valT b l (i + 1))) ((valT b l (i + 1) / 256 ^ (b * i / 8) : Nat) : Int) ((b * (i + 1) - 8 * (b * i / 8) : Nat) : Int) (i : Int)) r := by
  have hlb : b * l.length ≤ 13194139533312 := Nat.le_trans (Nat.mul_le_mul_right _ hb) (by omega)
  have hib : b * (i + 1) ≤ b * l.length := Nat.mul_le_mul_left _ hi
  have hbs : b * (i + 1) = b * i + b := Nat.mul_succ b i
  have hV := valT_lt hf (i + 1) (by omega)
  refine Ev.upFrom (g := fun p k => spec_Pack.l2 k l (b : Int) (bytesL p (valT b l (i + 1))) ((valT b l (i + 1) / 256 ^ p : Nat) : Int) ((b * (i + 1) - 8 * p : Nat) : Int) (i : Int)) (b * i / 8) (b * (i + 1) / 8) ?_ ?_ (by omega)
  · intro p hp0 hp h'
    refine Ev.step (fun k => ?_) h'
    have hsmall : valT b l (i + 1) / 256 ^ p < 2 ^ 20 := by
      rw [Nat.div_lt_iff_lt_mul (Nat.pow_pos (by omega)), pow256, ← Nat.pow_add]
      exact Nat.lt_of_lt_of_le hV (Nat.pow_le_pow_right (by omega) (by omega))
    have e1 : Int.tmod ((valT b l (i + 1) / 256 ^ p : Nat) : Int) 256 % 256 = ((valT b l (i + 1) / 256 ^ p % 256 : Nat) : Int) := by
      rw [show (256 : Int) = ((256 : Nat) : Int) from rfl, tmod_nat]; omega
    have e2 : wrap64 (Int.tdiv ((valT b l (i + 1) / 256 ^ p : Nat) : Int) 256) = ((valT b l (i + 1) / 256 ^ (p + 1) : Nat) : Int) := by
      rw [show (256 : Int) = ((256 : Nat) : Int) from rfl, tdiv_nat, Nat.pow_succ, ← Nat.div_div_eq_div_mul, w64n (valT b l (i + 1) / 256 ^ p / 256) (by omega)]
    simp only [spec_Pack.l2]
    rw [if_pos (by omega), if_pos (by rw [bytesL_length]; omega), e1, e2, bytesL_snoc, w64 (by omega) (by omega)]
    congr 1
    omega
  · refine Ev.step (fun k => ?_) h
    simp only [spec_Pack.l2]
    rw [if_neg (by omega), w64s i (by omega)]
    congr 1
    omega

theorem spec_Pack_ev (l : List Int) (b : Int) (hl : l.length ≤ 1099511627776) : Ev (fun k => spec_Pack.f k l b) (packR l b) := by
  unfold spec_Pack.f packR
  simp only [l01In_eq, Option.bind_some]
  by_cases hb : 1 ≤ b ∧ b ≤ 12
  · refine Ev.pos (by simpa using hb) ?_
    obtain ⟨c, rfl⟩ : ∃ c : Nat, b = (c : Int) := ⟨b.toNat, by omega⟩
    rw [Int.toNat_natCast]
    have h12 : (2 : Int) ^ c ≤ 4096 := by
      have : ((2 ^ c : Nat) : Int) ≤ ((2 ^ 12 : Nat) : Int) := Int.ofNat_le.mpr (Nat.pow_le_pow_right (by omega) (by omega))
      simpa using this
    have h0 := two_pos c
    have es : wrap64 ((2 : Int) ^ c - 1) = 2 ^ c - 1 := w64 (by omega) (by omega)
    have e2 := l11Two_ev (c : Int) (by omega)
    rw [Int.toNat_natCast] at e2
    by_cases hf : l.all (fitsB c) = true
    · rw [if_pos ⟨hb, hf⟩]
      refine Ev.up (g := fun i k => spec_Pack.l0 k l (c : Int) (i : Int)) (r := (packV c l, true)) l.length ?_ ?_ 0 (by omega)
      · intro i hi h
        refine Ev.step (f := fun k => (spec_l11Two.f k (c : Int)).bind fun t148 => ((spec_l01In.f (rd l (i : Int)) 0 (wrap64 (t148 - 1))).bind fun t149 => (if t149 = true then (spec_Pack.l0 k l (c : Int) (wrap64 ((i : Int) + 1))) else (some ((⟨#[]⟩ : ByteArray), false))))) (fun k => ?_) ?_
        · simp only [spec_Pack.l0]
          rw [if_pos (by omega), if_pos (by omega)]
        · refine Ev.bind e2 ?_
          simp only [es, l01In_eq, Option.bind_some]
          rw [rd_get l i hi, w64s i (by omega)]
          exact Ev.pos (List.all_eq_true.mp hf _ (List.getElem_mem hi)) h
      · refine Ev.step (f := fun k => spec_Pack.l1 k l (c : Int) (([] : List Int)) 0 0 0) (fun k => ?_) ?_
        · simp only [spec_Pack.l0]
          rw [if_neg (by omega)]
        · have key := Ev.up (g := fun i k => spec_Pack.l1 k l (c : Int) (bytesL (c * i / 8) (valT c l i)) ((valT c l i / 256 ^ (c * i / 8) : Nat) : Int) ((c * i % 8 : Nat) : Int) (i : Int)) (r := (packV c l, true)) l.length ?_ ?_ 0 (by omega)
          · simpa [valT, valB, bytesL] using key
          · intro i hi h
            have hlb : c * l.length ≤ 13194139533312 := Nat.le_trans (Nat.mul_le_mul_right l.length (show c ≤ 12 by omega)) (by omega)
            have hib : c * (i + 1) ≤ c * l.length := Nat.mul_le_mul_left _ hi
            have hbs : c * (i + 1) = c * i + c := Nat.mul_succ c i
            obtain ⟨x, hx, hxb⟩ := get_nat hf i hi
            have hV := valT_lt hf i (by omega)
            have hq : valT c l i / 256 ^ (c * i / 8) < 2 ^ (c * i % 8) := by
              rw [Nat.div_lt_iff_lt_mul (Nat.pow_pos (by omega)), pow256, ← Nat.pow_add, show c * i % 8 + 8 * (c * i / 8) = c * i by omega]; exact hV
            have h128 : 2 ^ (c * i % 8) ≤ 128 := Nat.pow_le_pow_right (n := 2) (by omega) (show c * i % 8 ≤ 7 by omega)
            have h4096 : 2 ^ c ≤ 4096 := Nat.pow_le_pow_right (n := 2) (by omega) (show c ≤ 12 by omega)
            have hxc : x * 2 ^ (c * i % 8) ≤ 4096 * 128 := Nat.mul_le_mul (by omega) h128
            have ed : valT c l (i + 1) / 256 ^ (c * i / 8) = valT c l i / 256 ^ (c * i / 8) + x * 2 ^ (c * i % 8) := by
              have : 2 ^ (c * i) = 256 ^ (c * i / 8) * 2 ^ (c * i % 8) := by rw [pow256, ← Nat.pow_add]; congr 1; omega
              rw [valT_succ c l i hi, hx, Int.toNat_natCast, this, Nat.mul_assoc, Nat.add_mul_div_left _ _ (Nat.pow_pos (by omega)), Nat.mul_comm x]
            have eb : bytesL (c * i / 8) (valT c l i) = bytesL (c * i / 8) (valT c l (i + 1)) := by
              apply List.ext_getElem
              · simp [bytesL]
              · intro j h1 h2
                rw [bytesL_get, bytesL_get]
                congr 1
                have hj : j < c * i / 8 := by simpa [bytesL] using h1
                rw [valT_succ c l i hi]
                obtain ⟨d, hd⟩ : ∃ d, c * i = 8 * (j + 1) + d := ⟨c * i - 8 * (j + 1), by omega⟩
                have : 2 ^ (c * i) * l[i].toNat = 256 ^ j * (256 * (2 ^ d * l[i].toNat)) := by
                  rw [hd, Nat.pow_add, ← pow256, Nat.pow_succ]; simp only [Nat.mul_assoc]
                rw [this, Nat.add_mul_div_left _ _ (Nat.pow_pos (by omega)), Nat.add_mul_mod_self_left]
            have e3 := l11Two_ev ((c * i % 8 : Nat) : Int) (by omega)
            rw [Int.toNat_natCast] at e3
            refine Ev.step (f := fun k => (spec_l11Two.f k ((c * i % 8 : Nat) : Int)).bind fun t157 => (spec_Pack.l2 k l (c : Int) (bytesL (c * i / 8) (valT c l i)) (wrap64 (((valT c l i / 256 ^ (c * i / 8) : Nat) : Int) + (wrap64 ((rd l (i : Int)) * t157)))) (wrap64 (((c * i % 8 : Nat) : Int) + (c : Int))) (i : Int))) (fun k => ?_) (Ev.bind e3 ?_)
            · simp only [spec_Pack.l1]
              rw [if_pos (by omega), if_pos (by omega)]
            · have h2 := spec_Pack_l2 l c (by omega) (by omega) hl hf i hi h
              have em : (x : Int) * 2 ^ (c * i % 8) = ((x * 2 ^ (c * i % 8) : Nat) : Int) := by simp
              rw [rd_get l i hi, hx, em, w64n (x * 2 ^ (c * i % 8)) (by omega), eb, w64 (x := ((valT c l i / 256 ^ (c * i / 8) : Nat) : Int) + ((x * 2 ^ (c * i % 8) : Nat) : Int)) (by have hA := Int.natCast_nonneg (valT c l i / 256 ^ (c * i / 8)); have hB := Int.natCast_nonneg (x * 2 ^ (c * i % 8)); omega) (by omega), w64 (x := ((c * i % 8 : Nat) : Int) + (c : Int)) (by omega) (by omega)]
              rw [ed] at h2
              refine Ev.congr (fun k => ?_) h2
              congr 1
              omega
          · have hlb : c * l.length ≤ 13194139533312 := Nat.le_trans (Nat.mul_le_mul_right l.length (show c ≤ 12 by omega)) (by omega)
            have hmc : l.length * c = c * l.length := Nat.mul_comm _ _
            unfold packV
            rw [← valT_all]
            by_cases h8 : c * l.length % 8 = 0
            · refine Ev.step (f := fun _ => some (strOfNums (bytesL (c * l.length / 8) (valT c l l.length)), true)) (fun k => ?_) ?_
              · simp only [spec_Pack.l1]
                rw [if_neg (by omega), if_neg (by omega)]
              · rw [show (l.length * c + 7) / 8 = c * l.length / 8 by omega]; exact Ev.now _
            · refine Ev.step (f := fun _ => some (strOfNums (bytesL (c * l.length / 8 + 1) (valT c l l.length)), true)) (fun k => ?_) ?_
              · simp only [spec_Pack.l1]
                rw [if_neg (by omega), if_pos (by omega), if_pos (by rw [bytesL_length]; omega), ← bytesL_snoc]
                rfl
              · rw [show (l.length * c + 7) / 8 = c * l.length / 8 + 1 by omega]; exact Ev.now _
    · rw [if_neg (fun h => hf h.2)]
      obtain ⟨n, hn, hbad⟩ := not_all hf
      have step : ∀ i, (hi : i < l.length) → ∀ {r : ByteArray × Bool}, Ev (fun k => if fitsB c l[i] = true then spec_Pack.l0 k l (c : Int) ((i + 1 : Nat) : Int) else some ((⟨#[]⟩ : ByteArray), false)) r → Ev (fun k => spec_Pack.l0 k l (c : Int) (i : Int)) r := by
        intro i hi r h
        refine Ev.step (f := fun k => (spec_l11Two.f k (c : Int)).bind fun t148 => ((spec_l01In.f (rd l (i : Int)) 0 (wrap64 (t148 - 1))).bind fun t149 => (if t149 = true then (spec_Pack.l0 k l (c : Int) (wrap64 ((i : Int) + 1))) else (some ((⟨#[]⟩ : ByteArray), false))))) (fun k => ?_) ?_
        · simp only [spec_Pack.l0]
          rw [if_pos (by omega), if_pos (by omega)]
        · refine Ev.bind e2 ?_
          simp only [es, l01In_eq, Option.bind_some]
          rw [rd_get l i hi, w64s i (by omega)]
          exact h
      refine Ev.up (g := fun i k => spec_Pack.l0 k l (c : Int) (i : Int)) n ?_ (step n hn (Ev.neg (by rw [hbad]; decide) (Ev.now _))) 0 (by omega)
      intro i hi h
      refine step i (by omega) ?_
      by_cases hfi : fitsB c (l[i]'(by omega)) = true
      · exact Ev.pos hfi h
      · exact Ev.neg hfi (Ev.now _)
  · rw [if_neg (fun h => hb h.1)]
    exact Ev.neg (by simpa using hb) (Ev.now _)

def pieces (b S n : Nat) : List Int := (List.range n).map fun i => ((S / 2 ^ (b * i) % 2 ^ b : Nat) : Int)
theorem pieces_length (b S n : Nat) : (pieces b S n).length = n := by simp [pieces]
theorem pieces_get (b S n i : Nat) (h : i < (pieces b S n).length) : (pieces b S n)[i] = ((S / 2 ^ (b * i) % 2 ^ b : Nat) : Int) := by simp [pieces]
theorem pieces_succ (b S n : Nat) : pieces b S (n + 1) = pieces b S n ++ [((S / 2 ^ (b * n) % 2 ^ b : Nat) : Int)] := by simp [pieces, List.range_succ]
theorem pieces_fit (b S n : Nat) : (pieces b S n).all (fitsB b) = true := by
  rw [List.all_eq_true]
  intro x hx
  obtain ⟨i, _, rfl⟩ := List.mem_map.mp hx
  refine decide_eq_true ⟨by omega, ?_⟩
  have h1 : S / 2 ^ (b * i) % 2 ^ b < 2 ^ b := Nat.mod_lt _ (Nat.two_pow_pos b)
  have h3 : ((2 ^ b : Nat) : Int) = (2 : Int) ^ b := by simp
  omega
theorem pieces_nat (b S n : Nat) : natL (pieces b S n) = (List.range n).map fun i => S / 2 ^ (b * i) % 2 ^ b := by
  unfold natL pieces
  rw [List.map_map]
  exact List.map_congr_left fun i _ => Int.toNat_natCast _
theorem pieces_val (b S n : Nat) : valB b (natL (pieces b S n)) = S % 2 ^ (b * n) := by rw [pieces_nat, valB_pieces]

def unpackR (s : ByteArray) (b n : Int) : List Int × Bool :=
  if (1 ≤ b ∧ b ≤ 12) ∧ (0 ≤ n ∧ n ≤ 1000) ∧ s.size = (n.toNat * b.toNat + 7) / 8 then
    if bnum s < 2 ^ (b.toNat * n.toNat) then (pieces b.toNat (bnum s) n.toNat, true) else ([], false)
  else ([], false)

theorem mod_div_pow (S m u : Nat) (h : u ≤ m) : S % 2 ^ m / 2 ^ u = S / 2 ^ u % 2 ^ (m - u) := by
  rw [show (2 : Nat) ^ m = 2 ^ u * 2 ^ (m - u) by rw [← Nat.pow_add]; congr 1; omega, Nat.mod_mul_right_div_self]
theorem mod_div_mod (S m u b : Nat) (h : u + b ≤ m) : S % 2 ^ m / 2 ^ u % 2 ^ b = S / 2 ^ u % 2 ^ b := by
  rw [mod_div_pow S m u (by omega), Nat.mod_mod_of_dvd _ (Nat.pow_dvd_pow 2 (by omega))]

theorem len_eq {n b : Nat} (hn : n ≤ 1000) (hb : b ≤ 12) : wrap64 (Int.tdiv (wrap64 ((wrap64 ((n : Int) * (b : Int))) + 7)) 8) = (((n * b + 7) / 8 : Nat) : Int) := by
  have h : n * b ≤ 1000 * 12 := Nat.mul_le_mul hn hb
  have e0 : (n : Int) * (b : Int) = ((n * b : Nat) : Int) := by simp
  rw [e0, w64n (n * b) (by omega), show ((n * b : Nat) : Int) + 7 = ((n * b + 7 : Nat) : Int) by omega, w64n (n * b + 7) (by omega), tdiv8, w64n ((n * b + 7) / 8) (by omega)]

set_option maxHeartbeats 1000000 in
theorem spec_Unpack_l1 (s : ByteArray) (b n : Nat) (hb1 : 1 ≤ b) (hb : b ≤ 12) (hn : n ≤ 1000) (hs : s.size = (n * b + 7) / 8) (i : Nat) (hi : i < n) {r : List Int × Bool}
    (h : Ev (fun k => spec_Unpack.l0 k s (b : Int) (n : Int) (pieces b (bnum s) (i + 1)) ((bnum s % 2 ^ (8 * ((b * (i + 1) + 7) / 8)) / 2 ^ (b * (i + 1)) : Nat) : Int) ((8 * ((b * (i + 1) + 7) / 8) - b * (i + 1) : Nat) : Int) (((b * (i + 1) + 7) / 8 : Nat) : Int) ((i + 1 : Nat) : Int)) r) :
    Ev (fun k => spec_Unpack.l1 k s (b : Int) (n : Int) (pieces b (bnum s) i) ((bnum s % 2 ^ (8 * ((b * i + 7) / 8)) / 2 ^ (b * i) : Nat) : Int) ((8 * ((b * i + 7) / 8) - b * i : Nat) : Int) (((b * i + 7) / 8 : Nat) : Int) (i : Int)) r := by
  have hbn : b * n ≤ 12 * 1000 := Nat.mul_le_mul hb hn
  have hib : b * (i + 1) ≤ b * n := Nat.mul_le_mul_left _ hi
  have hbs : b * (i + 1) = b * i + b := Nat.mul_succ b i
  have hmc : n * b = b * n := Nat.mul_comm _ _
  have e2 := l11Two_ev (b : Int) (by omega)
  rw [Int.toNat_natCast] at e2
  have small : ∀ p, p ≤ (b * (i + 1) + 7) / 8 → bnum s % 2 ^ (8 * p) / 2 ^ (b * i) < 2 ^ 20 := by
    intro p hp
    rw [Nat.div_lt_iff_lt_mul (Nat.two_pow_pos _), ← Nat.pow_add]
    exact Nat.lt_of_lt_of_le (Nat.mod_lt _ (Nat.two_pow_pos _)) (Nat.pow_le_pow_right (by omega) (by omega))
  refine Ev.upFrom (g := fun p k => spec_Unpack.l1 k s (b : Int) (n : Int) (pieces b (bnum s) i) ((bnum s % 2 ^ (8 * p) / 2 ^ (b * i) : Nat) : Int) ((8 * p - b * i : Nat) : Int) (p : Int) (i : Int)) ((b * i + 7) / 8) ((b * (i + 1) + 7) / 8) ?_ ?_ (by omega)
  · intro p hp0 hp h'
    have e3 := l11Two_ev ((8 * p - b * i : Nat) : Int) (by omega)
    rw [Int.toNat_natCast] at e3
    refine Ev.step (f := fun k => (spec_l11Two.f k ((8 * p - b * i : Nat) : Int)).bind fun t193 => (spec_Unpack.l1 k s (b : Int) (n : Int) (pieces b (bnum s) i) (wrap64 (((bnum s % 2 ^ (8 * p) / 2 ^ (b * i) : Nat) : Int) + (wrap64 ((wrap64 (bt s (p : Int))) * t193)))) (wrap64 (((8 * p - b * i : Nat) : Int) + 8)) (wrap64 ((p : Int) + 1)) (i : Int))) (fun k => ?_) (Ev.bind e3 ?_)
    · simp only [spec_Unpack.l1]
      rw [if_pos (by omega), if_pos (by omega), if_pos (by omega)]
    · have hsm := small (p + 1) (by omega)
      have eS : bnum s % 2 ^ (8 * (p + 1)) / 2 ^ (b * i) = bnum s % 2 ^ (8 * p) / 2 ^ (b * i) + bnum s / 256 ^ p % 256 * 2 ^ (8 * p - b * i) := by
        rw [show 8 * (p + 1) = 8 * p + 8 by omega, Nat.pow_add, Nat.mod_mul, show (2 : Nat) ^ (8 * p) = 2 ^ (b * i) * 2 ^ (8 * p - b * i) by rw [← Nat.pow_add]; congr 1; omega]
        rw [Nat.mul_assoc (2 ^ (b * i)), Nat.add_mul_div_left _ _ (Nat.two_pow_pos _), ← Nat.pow_add, show b * i + (8 * p - b * i) = 8 * p by omega, ← pow256, Nat.mul_comm (2 ^ (8 * p - b * i))]
      rw [bt_bnum s p (by omega), w64n (bnum s / 256 ^ p % 256) (by omega)]
      have em : ((bnum s / 256 ^ p % 256 : Nat) : Int) * 2 ^ (8 * p - b * i) = ((bnum s / 256 ^ p % 256 * 2 ^ (8 * p - b * i) : Nat) : Int) := by simp
      have hA := Int.natCast_nonneg (bnum s % 2 ^ (8 * p) / 2 ^ (b * i))
      have hB := Int.natCast_nonneg (bnum s / 256 ^ p % 256 * 2 ^ (8 * p - b * i))
      rw [em, w64n (bnum s / 256 ^ p % 256 * 2 ^ (8 * p - b * i)) (by omega), w64s p (by omega)]
      rw [w64 (x := ((bnum s % 2 ^ (8 * p) / 2 ^ (b * i) : Nat) : Int) + ((bnum s / 256 ^ p % 256 * 2 ^ (8 * p - b * i) : Nat) : Int)) (by omega) (by omega), w64 (x := ((8 * p - b * i : Nat) : Int) + 8) (by omega) (by omega)]
      rw [eS] at h'
      refine Ev.congr (fun k => ?_) h'
      congr 1
      omega
  · have hsm := small ((b * (i + 1) + 7) / 8) (by omega)
    have h12 : (2 : Int) ^ b ≤ 4096 := by
      have : ((2 ^ b : Nat) : Int) ≤ ((2 ^ 12 : Nat) : Int) := Int.ofNat_le.mpr (Nat.pow_le_pow_right (by omega) (by omega))
      simpa using this
    have h0 := two_pos b
    refine Ev.step (f := fun k => ((spec_l11Two.f k (b : Int)).bind fun t194 => (if t194 = 0 then (none) else (if (pieces b (bnum s) i).length < 17592186044416 then ((spec_l11Two.f k (b : Int)).bind fun t198 => (if t198 = 0 then (none) else (spec_Unpack.l0 k s (b : Int) (n : Int) (pieces b (bnum s) i ++ [Int.tmod ((bnum s % 2 ^ (8 * ((b * (i + 1) + 7) / 8)) / 2 ^ (b * i) : Nat) : Int) t194]) (wrap64 (Int.tdiv ((bnum s % 2 ^ (8 * ((b * (i + 1) + 7) / 8)) / 2 ^ (b * i) : Nat) : Int) t198)) (wrap64 (((8 * ((b * (i + 1) + 7) / 8) - b * i : Nat) : Int) - (b : Int))) ((((b * (i + 1) + 7) / 8 : Nat) : Int)) (wrap64 ((i : Int) + 1))))) else (none))))) (fun k => ?_) ?_
    · simp only [spec_Unpack.l1]
      rw [if_neg (by omega)]
    · refine Ev.bind e2 (Ev.neg (by omega) (Ev.pos (by rw [pieces_length]; omega) (Ev.bind e2 (Ev.neg (by omega) ?_))))
      have ec : (2 : Int) ^ b = ((2 ^ b : Nat) : Int) := by simp
      rw [ec, tmod_nat, tdiv_nat, mod_div_mod _ _ _ _ (by omega), ← pieces_succ, Nat.div_div_eq_div_mul, ← Nat.pow_add, ← hbs, w64n (bnum s % 2 ^ (8 * ((b * (i + 1) + 7) / 8)) / 2 ^ (b * (i + 1))) (by
        have : bnum s % 2 ^ (8 * ((b * (i + 1) + 7) / 8)) / 2 ^ (b * (i + 1)) ≤ bnum s % 2 ^ (8 * ((b * (i + 1) + 7) / 8)) / 2 ^ (b * i) := Nat.div_le_div_left (Nat.pow_le_pow_right (by omega) (by omega)) (Nat.two_pow_pos _)
        omega), w64 (x := ((8 * ((b * (i + 1) + 7) / 8) - b * i : Nat) : Int) - (b : Int)) (by omega) (by omega), w64s i (by omega)]
      refine Ev.congr (fun k => ?_) h
      congr 1
      omega

theorem spec_Unpack_ev (s : ByteArray) (b n : Int) : Ev (fun k => spec_Unpack.f k s b n) (unpackR s b n) := by
  unfold spec_Unpack.f unpackR
  simp only [l01In_eq, Option.bind_some]
  have bad : Ev (fun k => spec_Unpack.j0 k s b n [] true) (([] : List Int), false) := by
    refine Ev.step (f := fun _ => some ([], false)) (fun k => ?_) (Ev.now _)
    simp only [spec_Unpack.j0, if_true]
  by_cases hb : 1 ≤ b ∧ b ≤ 12
  · refine Ev.pos (by simpa using hb) ?_
    by_cases hn : 0 ≤ n ∧ n ≤ 1000
    · refine Ev.pos (by simpa using hn) ?_
      obtain ⟨c, rfl⟩ : ∃ c : Nat, b = (c : Int) := ⟨b.toNat, by omega⟩
      obtain ⟨m, rfl⟩ : ∃ c : Nat, n = (c : Int) := ⟨n.toNat, by omega⟩
      rw [Int.toNat_natCast, Int.toNat_natCast, len_eq (by omega) (by omega)]
      by_cases hs : s.size = (m * c + 7) / 8
      · rw [if_pos ⟨hb, hn, hs⟩, show (((s.size : Int) != (((m * c + 7) / 8 : Nat) : Int)) = false) by rw [bne_eq_false_iff_eq, hs]]
        have hmc : m * c = c * m := Nat.mul_comm _ _
        refine Ev.step (f := fun k => spec_Unpack.l0 k s (c : Int) (m : Int) [] 0 0 0 0) (fun k => ?_) ?_
        · simp only [spec_Unpack.j0]
          rw [if_neg (by decide)]
        · have key := Ev.up (g := fun i k => spec_Unpack.l0 k s (c : Int) (m : Int) (pieces c (bnum s) i) ((bnum s % 2 ^ (8 * ((c * i + 7) / 8)) / 2 ^ (c * i) : Nat) : Int) ((8 * ((c * i + 7) / 8) - c * i : Nat) : Int) (((c * i + 7) / 8 : Nat) : Int) (i : Int)) (r := if bnum s < 2 ^ (c * m) then (pieces c (bnum s) m, true) else ([], false)) m ?_ ?_ 0 (by omega)
          · simpa [pieces, Nat.mod_one] using key
          · intro i hi h
            refine Ev.step (fun k => ?_) (spec_Unpack_l1 s c m (by omega) (by omega) (by omega) hs i hi h)
            simp only [spec_Unpack.l0]
            rw [if_pos (by omega)]
          · have hlt := bnum_lt s
            rw [pow256, hs, hmc] at hlt
            have e1 : bnum s % 2 ^ (8 * ((c * m + 7) / 8)) = bnum s := Nat.mod_eq_of_lt hlt
            by_cases hq : bnum s < 2 ^ (c * m)
            · rw [if_pos hq]
              refine Ev.step (f := fun _ => some (pieces c (bnum s) m, true)) (fun k => ?_) (Ev.now _)
              simp only [spec_Unpack.l0]
              rw [if_neg (by omega), if_pos (by rw [e1, Nat.div_eq_of_lt hq]; rfl)]
            · rw [if_neg hq]
              refine Ev.step (f := fun _ => some ([], false)) (fun k => ?_) (Ev.now _)
              simp only [spec_Unpack.l0]
              have h2 : 0 < bnum s / 2 ^ (c * m) := Nat.div_pos (by omega) (Nat.two_pow_pos _)
              rw [if_neg (by omega), if_neg (by rw [e1]; omega)]
      · rw [if_neg (fun h => hs h.2.2), show (((s.size : Int) != (((m * c + 7) / 8 : Nat) : Int)) = true) by rw [bne_iff_ne]; omega]
        exact bad
    · rw [if_neg (fun h => hn h.2.1)]
      exact Ev.neg (by simpa using hn) bad
  · rw [if_neg (fun h => hb h.1)]
    exact Ev.neg (by simpa using hb) bad

theorem i64_or_bit (a t b : Nat) (ha : a < 2 ^ t) (ht : t ≤ 60) (hb : b ≤ 1) : Go.bits .or .i64 (a : Int) ((b * 2 ^ t : Nat) : Int) = ((a + b * 2 ^ t : Nat) : Int) := by
  have h7 : 2 ^ t ≤ 2 ^ 60 := Nat.pow_le_pow_right (n := 2) (by omega) ht
  have hb2 : b * 2 ^ t ≤ 2 ^ t := by
    have := Nat.mul_le_mul_right (2 ^ t) hb
    omega
  rw [(bits_nat .i64 62 (by decide) (fun n h0 h1 => by rw [IntKind.wrap_i64]; omega) a (b * 2 ^ t) (by omega) (by omega)).2, Nat.or_comm, Nat.mul_comm b, ← Nat.two_pow_add_eq_or_of_lt ha b, Nat.add_comm]

theorem div_bit (S m : Nat) : S / 256 ^ (m / 8) % 256 / 2 ^ (m % 8) % 2 = S / 2 ^ m % 2 := by
  have h1 : (256 : Nat) = 2 ^ (m % 8) * 2 ^ (8 - m % 8) := by rw [← Nat.pow_add, show m % 8 + (8 - m % 8) = 8 by omega]
  have h2 : (2 : Nat) ^ (8 - m % 8) = 2 * 2 ^ (7 - m % 8) := by rw [show 8 - m % 8 = (7 - m % 8) + 1 by omega, Nat.pow_succ, Nat.mul_comm]
  conv => lhs; rw [show S / 256 ^ (m / 8) % 256 = S / 256 ^ (m / 8) % (2 ^ (m % 8) * 2 ^ (8 - m % 8)) by rw [← h1]]
  rw [Nat.mod_mul_right_div_self, h2, Nat.mod_mul_right_mod, Nat.div_div_eq_div_mul, pow256, ← Nat.pow_add, show 8 * (m / 8) + m % 8 = m by omega]

theorem at_eq (i c j : Nat) (h : c * i + j ≤ 4611686018427387904) : wrap64 ((wrap64 ((i : Int) * (c : Int))) + (j : Int)) = ((c * i + j : Nat) : Int) := by
  have e0 : (i : Int) * (c : Int) = ((c * i : Nat) : Int) := by rw [Nat.mul_comm]; simp
  rw [e0, w64n (c * i) (by omega)]
  exact w64n (c * i + j) (by omega)
theorem unpack_bit (S b i j : Nat) (hj : j ≤ 12) :
    Go.bits .or .i64 ((S / 2 ^ (b * i) % 2 ^ j : Nat) : Int) (shl .i64 (wrap64 (Go.bits .and .u8 (shr .u8 ((S / 256 ^ ((b * i + j) / 8) % 256 : Nat) : Int) (((b * i + j) % 8 : Nat) : Int)) 1)) (j : Int)) = ((S / 2 ^ (b * i) % 2 ^ (j + 1) : Nat) : Int) := by
  have e1 : shr .u8 ((S / 256 ^ ((b * i + j) / 8) % 256 : Nat) : Int) (((b * i + j) % 8 : Nat) : Int) = ((S / 256 ^ ((b * i + j) / 8) % 256 / 2 ^ ((b * i + j) % 8) : Nat) : Int) := shr_nat .u8 _ _ (by simp [IntKind.bits]; omega)
  rw [e1, u8_and1 _ (Nat.lt_of_le_of_lt (Nat.div_le_self _ _) (Nat.mod_lt _ (by omega))), div_bit, mod_succ_bit, Nat.div_div_eq_div_mul, ← Nat.pow_add]
  have hlo : S / 2 ^ (b * i) % 2 ^ j < 2 ^ j := Nat.mod_lt _ (Nat.two_pow_pos j)
  have h12 : 2 ^ j ≤ 4096 := Nat.pow_le_pow_right (n := 2) (by omega) hj
  obtain ⟨u, hu⟩ : ∃ u, S / 2 ^ (b * i + j) % 2 = u := ⟨_, rfl⟩
  have hu1 : u ≤ 1 := by omega
  obtain ⟨q, hq⟩ : ∃ q, S / 2 ^ (b * i) % 2 ^ j = q := ⟨_, rfl⟩
  rw [hu, hq]
  rw [hq] at hlo
  have hb2 : u * 2 ^ j ≤ 4096 := Nat.le_trans (Nat.mul_le_mul_right (2 ^ j) hu1) (by omega)
  have hsh : shl .i64 (u : Int) (j : Int) = ((u * 2 ^ j : Nat) : Int) := by
    rw [shl64 _ _ (by omega), Int.toNat_natCast]
    have em : (u : Int) * 2 ^ j = ((u * 2 ^ j : Nat) : Int) := by simp
    rw [em, w64n (u * 2 ^ j) (by omega)]
  rw [w64n u (by omega), hsh, i64_or_bit q j u hlo (by omega) hu1, Nat.mul_comm u]

theorem impl_Unpack_ev (s : ByteArray) (b n : Int) : Ev (fun k => impl_Unpack.f k s b n) (unpackR s b n) := by
  unfold impl_Unpack.f unpackR
  simp only [in_eq, Option.bind_some]
  have bad : Ev (fun k => impl_Unpack.j0 k s b n true) (([] : List Int), false) := by
    refine Ev.step (f := fun _ => some ([], false)) (fun k => ?_) (Ev.now _)
    simp only [impl_Unpack.j0, if_true]
  by_cases hb : 1 ≤ b ∧ b ≤ 12
  · refine Ev.pos (by simpa using hb) ?_
    by_cases hn : 0 ≤ n ∧ n ≤ 1000
    · refine Ev.pos (by simpa using hn) ?_
      obtain ⟨c, rfl⟩ : ∃ c : Nat, b = (c : Int) := ⟨b.toNat, by omega⟩
      obtain ⟨m, rfl⟩ : ∃ c : Nat, n = (c : Int) := ⟨n.toNat, by omega⟩
      rw [Int.toNat_natCast, Int.toNat_natCast, len_eq (by omega) (by omega)]
      by_cases hs : s.size = (m * c + 7) / 8
      · rw [if_pos ⟨hb, hn, hs⟩, show (((s.size : Int) != (((m * c + 7) / 8 : Nat) : Int)) = false) by rw [bne_eq_false_iff_eq, hs]]
        have hmc : m * c = c * m := Nat.mul_comm _ _
        have hbn : c * m ≤ 12 * 1000 := Nat.mul_le_mul (by omega) (by omega)
        refine Ev.step (f := fun k => impl_Unpack.l0 k s (c : Int) [] (m : Int) 0) (fun k => ?_) ?_
        · simp only [impl_Unpack.j0]
          rw [if_neg (by decide)]
        · refine Ev.up (g := fun i k => impl_Unpack.l0 k s (c : Int) (pieces c (bnum s) i) (m : Int) (i : Int)) (r := if bnum s < 2 ^ (c * m) then (pieces c (bnum s) m, true) else ([], false)) m ?_ ?_ 0 (by omega)
          · intro i hi h
            have hib : c * (i + 1) ≤ c * m := Nat.mul_le_mul_left _ hi
            have hbs : c * (i + 1) = c * i + c := Nat.mul_succ c i
            have hic : i * c = c * i := Nat.mul_comm _ _
            refine Ev.step (f := fun k => impl_Unpack.l1 k s (c : Int) (pieces c (bnum s) i) (i : Int) 0 (m : Int) (i : Int) (c : Int) 0) (fun k => ?_) ?_
            · simp only [impl_Unpack.l0]
              rw [if_pos (by omega)]
            · have key := Ev.up (g := fun j k => impl_Unpack.l1 k s (c : Int) (pieces c (bnum s) i) (i : Int) ((bnum s / 2 ^ (c * i) % 2 ^ j : Nat) : Int) (m : Int) (i : Int) (c : Int) (j : Int)) (r := if bnum s < 2 ^ (c * m) then (pieces c (bnum s) m, true) else ([], false)) c ?_ ?_ 0 (by omega)
              · simpa [Nat.mod_one] using key
              · intro j hj h'
                refine Ev.step (fun k => ?_) h'
                have n1 : c * i + j ≤ 4611686018427387904 := by omega
                have q0 : (c * i + j) / 8 < s.size := by omega
                have j12 : j ≤ 12 := by omega
                have n3 : (c * i + j) / 8 ≤ 9223372036854775807 := by omega
                have jw := w64s j (by omega)
                have e1 := at_eq i c j n1
                have e2 : wrap64 (((c * i + j) / 8 : Nat) : Int) = (((c * i + j) / 8 : Nat) : Int) := w64n _ n3
                have e3 := bt_bnum s ((c * i + j) / 8) q0
                have e4 := unpack_bit (bnum s) c i j j12
                simp only [impl_Unpack.l1]
                rw [e1, tdiv8, tmod8, e2, if_pos (Int.ofNat_lt.mpr hj), if_pos (Int.natCast_nonneg _), if_pos (Int.ofNat_lt.mpr q0), if_pos (Int.natCast_nonneg _), if_pos (Int.natCast_nonneg _), e3, e4, jw]
              · refine Ev.step (fun k => ?_) h
                simp only [impl_Unpack.l1]
                rw [if_neg (by omega), if_pos (by rw [pieces_length]; omega), w64s i (by omega), ← pieces_succ]
          · have hlt := bnum_lt s
            have hpk : packV c (pieces c (bnum s) m) = strOfNums (bytesL s.size (bnum s % 2 ^ (c * m))) := by
              unfold packV
              rw [pieces_length, pieces_val, hs]
            have hp := impl_packed_ev (pieces c (bnum s) m) c (by omega) (by omega) (by rw [pieces_length]; omega) (pieces_fit _ _ _)
            rw [hpk] at hp
            refine Ev.step (f := fun k => (impl_packed.f k (pieces c (bnum s) m) (c : Int)).bind fun t125 => (if t125.toList = s.toList then (some (pieces c (bnum s) m, true)) else (some (([] : List Int), false)))) (fun k => ?_) (Ev.bind hp ?_)
            · simp only [impl_Unpack.l0]
              rw [if_neg (by omega)]
            · by_cases hq : bnum s < 2 ^ (c * m)
              · rw [if_pos hq]
                refine Ev.pos ?_ (Ev.now _)
                rw [Nat.mod_eq_of_lt hq, strOf_bnum]
              · rw [if_neg hq]
                refine Ev.neg (fun h => hq ?_) (Ev.now _)
                rw [bytes_toList] at h
                have h2 : strOfNums (bytesL s.size (bnum s % 2 ^ (c * m))) = strOfNums (bytesL s.size (bnum s)) := h.trans (strOf_bnum s).symm
                have h3 := strOf_inj (Nat.lt_of_le_of_lt (Nat.mod_le _ _) hlt) hlt h2
                rw [← h3]
                exact Nat.mod_lt _ (Nat.two_pow_pos _)
      · rw [if_neg (fun h => hs h.2.2), show (((s.size : Int) != (((m * c + 7) / 8 : Nat) : Int)) = true) by rw [bne_iff_ne]; omega]
        exact bad
    · rw [if_neg (fun h => hn h.2.1)]
      exact Ev.neg (by simpa using hn) bad
  · rw [if_neg (fun h => hb h.1)]
    exact Ev.neg (by simpa using hb) bad

def polyBytesV (l : List Int) : ByteArray := if polyOk l = true then packV 12 l else ⟨#[]⟩
def polyFromR (s : ByteArray) : List Int × Bool := if (unpackR s 12 256).2 = true ∧ polyOk (unpackR s 12 256).1 = true then ((unpackR s 12 256).1, true) else ([], false)

theorem polyOk_fits {l : List Int} (h : polyOk l = true) : l.all (fitsB 12) = true := by
  rw [List.all_eq_true]
  intro x hx
  have := polyOk_mem h hx
  exact decide_eq_true ⟨this.1, by omega⟩
theorem packR_poly {l : List Int} (h : polyOk l = true) : packR l 12 = (packV 12 l, true) := by
  unfold packR
  rw [if_pos ⟨by omega, polyOk_fits h⟩]
  rfl
theorem unpackR_len (s : ByteArray) (b n : Int) : (unpackR s b n).1.length ≤ 1000 := by
  unfold unpackR
  split
  · split
    · rw [pieces_length]; omega
    · simp
  · simp
theorem polyFromR_len (s : ByteArray) : (polyFromR s).1.length ≤ 1000 := by
  have := unpackR_len s 12 256
  unfold polyFromR
  split
  · exact this
  · simp
theorem spec_PolyFrom_ev (s : ByteArray) : Ev (fun k => spec_PolyFrom.f k s) (polyFromR s) := by
  unfold spec_PolyFrom.f polyFromR
  refine Ev.bind (spec_Unpack_ev s 12 256) ?_
  by_cases h : (unpackR s 12 256).2 = true
  · refine Ev.pos h (Ev.bind (spec_PolyOk_ev _) ?_)
    by_cases h2 : polyOk (unpackR s 12 256).1 = true
    · refine Ev.pos h2 ?_
      rw [if_pos ⟨h, h2⟩]; exact Ev.now _
    · refine Ev.neg h2 ?_
      rw [if_neg (fun h3 => h2 h3.2)]; exact Ev.now _
  · rw [if_neg (fun h3 => h h3.1)]
    exact Ev.neg h (Ev.now _)
theorem impl_PolyFrom_ev (s : ByteArray) : Ev (fun k => impl_PolyFrom.f k s) (polyFromR s) := by
  unfold impl_PolyFrom.f polyFromR
  refine Ev.bind (impl_Unpack_ev s 12 256) ?_
  by_cases h : (unpackR s 12 256).2 = true
  · refine Ev.pos h (Ev.bind (impl_PolyOk_ev _ (by have := unpackR_len s 12 256; omega)) ?_)
    by_cases h2 : polyOk (unpackR s 12 256).1 = true
    · refine Ev.pos h2 ?_
      rw [if_pos ⟨h, h2⟩]; exact Ev.now _
    · refine Ev.neg h2 ?_
      rw [if_neg (fun h3 => h2 h3.2)]; exact Ev.now _
  · rw [if_neg (fun h3 => h h3.1)]
    exact Ev.neg h (Ev.now _)

end Go.Proofs.Ythkbgflbbnjcpaa.Pure
