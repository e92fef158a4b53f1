/- Unpack, of the program and of the reference: the pieces of the number that the bytes write. -/
import Derived.Test.YtcpgpjggnghpdaaMC
import Derived.Test.YtcpgpjggnghpdaaPx17
import Derived.Test.YtcpgpjggnghpdaaPx18
import Derived.Test.YtcpgpjggnghpdaaPx22
import Derived.Test.YtcpgpjggnghpdaaPx23
namespace Go.Proofs.Ytcpgpjggnghpdaa.Pure
open Go.RowKit Go.Proofs.YtcpgpjggnghpdaaW.PrintWords Go.Proofs.YtcpgpjggnghpdaaW.PrintLast Go.Proofs.YtcpgpjggnghpdaaW.PrintMore Go.Proofs.Ytcpgpjggnghpdaa.P

def pieces (b S n : Nat) : List Int := (List.range n).map fun i => ((S / 2 ^ (b * i) % 2 ^ b : Nat) : Int)
theorem pieces_length (b S n : Nat) : (pieces b S n).length = n := by simp [pieces]
theorem pieces_get (b S n i : Nat) (h : i < (pieces b S n).length) : (pieces b S n)[i] = ((S / 2 ^ (b * i) % 2 ^ b : Nat) : Int) := by simp [pieces]
theorem pieces_succ (b S n : Nat) : pieces b S (n + 1) = pieces b S n ++ [((S / 2 ^ (b * n) % 2 ^ b : Nat) : Int)] := by simp [pieces, List.range_succ]
theorem pieces_fit (b S n : Nat) : (pieces b S n).all (fitsB b) = true := by
  rw [List.all_eq_true]
  intro x hx
  obtain ⟨i, _, rfl⟩ := List.mem_map.mp hx
  refine decide_eq_true ⟨by omega, ?_⟩
  have h1 : S / 2 ^ (b * i) % 2 ^ b < 2 ^ b := Nat.mod_lt _ (Nat.two_pow_pos b)
  have h3 : ((2 ^ b : Nat) : Int) = (2 : Int) ^ b := by simp
  omega
theorem pieces_nat (b S n : Nat) : natL (pieces b S n) = (List.range n).map fun i => S / 2 ^ (b * i) % 2 ^ b := by
  unfold natL pieces
  rw [List.map_map]
  exact List.map_congr_left fun i _ => Int.toNat_natCast _
theorem pieces_val (b S n : Nat) : valB b (natL (pieces b S n)) = S % 2 ^ (b * n) := by rw [pieces_nat, valB_pieces]

def unpackR (s : ByteArray) (b n : Int) : List Int × Bool :=
  if (1 ≤ b ∧ b ≤ 12) ∧ (0 ≤ n ∧ n ≤ 1000) ∧ s.size = (n.toNat * b.toNat + 7) / 8 then
    if bnum s < 2 ^ (b.toNat * n.toNat) then (pieces b.toNat (bnum s) n.toNat, true) else ([], false)
  else ([], false)

theorem mod_div_pow (S m u : Nat) (h : u ≤ m) : S % 2 ^ m / 2 ^ u = S / 2 ^ u % 2 ^ (m - u) := by
  rw [show (2 : Nat) ^ m = 2 ^ u * 2 ^ (m - u) by rw [← Nat.pow_add]; congr 1; omega, Nat.mod_mul_right_div_self]
theorem mod_div_mod (S m u b : Nat) (h : u + b ≤ m) : S % 2 ^ m / 2 ^ u % 2 ^ b = S / 2 ^ u % 2 ^ b := by
  rw [mod_div_pow S m u (by omega), Nat.mod_mod_of_dvd _ (Nat.pow_dvd_pow 2 (by omega))]

theorem len_eq {n b : Nat} (hn : n ≤ 1000) (hb : b ≤ 12) : wrap64 (Int.tdiv (wrap64 ((wrap64 ((n : Int) * (b : Int))) + 7)) 8) = (((n * b + 7) / 8 : Nat) : Int) := by
  have h : n * b ≤ 1000 * 12 := Nat.mul_le_mul hn hb
  have e0 : (n : Int) * (b : Int) = ((n * b : Nat) : Int) := by simp
  rw [e0, w64n (n * b) (by omega), show ((n * b : Nat) : Int) + 7 = ((n * b + 7 : Nat) : Int) by omega, w64n (n * b + 7) (by omega), tdiv8, w64n ((n * b + 7) / 8) (by omega)]

set_option maxHeartbeats 1000000 in
theorem spec_Unpack_l1 (s : ByteArray) (b n : Nat) (hb1 : 1 ≤ b) (hb : b ≤ 12) (hn : n ≤ 1000) (hs : s.size = (n * b + 7) / 8) (i : Nat) (hi : i < n) {r : List Int × Bool}
    (h : Ev (fun k => spec_Unpack.l0 k s (b : Int) (n : Int) (pieces b (bnum s) (i + 1)) ((bnum s % 2 ^ (8 * ((b * (i + 1) + 7) / 8)) / 2 ^ (b * (i + 1)) : Nat) : Int) ((8 * ((b * (i + 1) + 7) / 8) - b * (i + 1) : Nat) : Int) (((b * (i + 1) + 7) / 8 : Nat) : Int) ((i + 1 : Nat) : Int)) r) :
    Ev (fun k => spec_Unpack.l1 k s (b : Int) (n : Int) (pieces b (bnum s) i) ((bnum s % 2 ^ (8 * ((b * i + 7) / 8)) / 2 ^ (b * i) : Nat) : Int) ((8 * ((b * i + 7) / 8) - b * i : Nat) : Int) (((b * i + 7) / 8 : Nat) : Int) (i : Int)) r := by
  have hbn : b * n ≤ 12 * 1000 := Nat.mul_le_mul hb hn
  have hib : b * (i + 1) ≤ b * n := Nat.mul_le_mul_left _ hi
  have hbs : b * (i + 1) = b * i + b := Nat.mul_succ b i
  have hmc : n * b = b * n := Nat.mul_comm _ _
  have e2 := l11Two_ev (b : Int) (by omega)
  rw [Int.toNat_natCast] at e2
  have small : ∀ p, p ≤ (b * (i + 1) + 7) / 8 → bnum s % 2 ^ (8 * p) / 2 ^ (b * i) < 2 ^ 20 := by
    intro p hp
    rw [Nat.div_lt_iff_lt_mul (Nat.two_pow_pos _), ← Nat.pow_add]
    exact Nat.lt_of_lt_of_le (Nat.mod_lt _ (Nat.two_pow_pos _)) (Nat.pow_le_pow_right (by omega) (by omega))
  refine Ev.upFrom (g := fun p k => spec_Unpack.l1 k s (b : Int) (n : Int) (pieces b (bnum s) i) ((bnum s % 2 ^ (8 * p) / 2 ^ (b * i) : Nat) : Int) ((8 * p - b * i : Nat) : Int) (p : Int) (i : Int)) ((b * i + 7) / 8) ((b * (i + 1) + 7) / 8) ?_ ?_ (by omega)
  · intro p hp0 hp h'
    have e3 := l11Two_ev ((8 * p - b * i : Nat) : Int) (by omega)
    rw [Int.toNat_natCast] at e3
    refine Ev.step (f := fun k => (spec_l11Two.f k ((8 * p - b * i : Nat) : Int)).bind fun t193 => (spec_Unpack.l1 k s (b : Int) (n : Int) (pieces b (bnum s) i) (wrap64 (((bnum s % 2 ^ (8 * p) / 2 ^ (b * i) : Nat) : Int) + (wrap64 ((wrap64 (bt s (p : Int))) * t193)))) (wrap64 (((8 * p - b * i : Nat) : Int) + 8)) (wrap64 ((p : Int) + 1)) (i : Int))) (fun k => ?_) (Ev.bind e3 ?_)
    · simp only [spec_Unpack.l1]
      rw [if_pos (by omega), if_pos (by omega), if_pos (by omega)]
    · have hsm := small (p + 1) (by omega)
      have eS : bnum s % 2 ^ (8 * (p + 1)) / 2 ^ (b * i) = bnum s % 2 ^ (8 * p) / 2 ^ (b * i) + bnum s / 256 ^ p % 256 * 2 ^ (8 * p - b * i) := by
        rw [show 8 * (p + 1) = 8 * p + 8 by omega, Nat.pow_add, Nat.mod_mul, show (2 : Nat) ^ (8 * p) = 2 ^ (b * i) * 2 ^ (8 * p - b * i) by rw [← Nat.pow_add]; congr 1; omega]
        rw [Nat.mul_assoc (2 ^ (b * i)), Nat.add_mul_div_left _ _ (Nat.two_pow_pos _), ← Nat.pow_add, show b * i + (8 * p - b * i) = 8 * p by omega, ← pow256, Nat.mul_comm (2 ^ (8 * p - b * i))]
      rw [bt_bnum s p (by omega), w64n (bnum s / 256 ^ p % 256) (by omega)]
      have em : ((bnum s / 256 ^ p % 256 : Nat) : Int) * 2 ^ (8 * p - b * i) = ((bnum s / 256 ^ p % 256 * 2 ^ (8 * p - b * i) : Nat) : Int) := by simp
      have hA := Int.natCast_nonneg (bnum s % 2 ^ (8 * p) / 2 ^ (b * i))
      have hB := Int.natCast_nonneg (bnum s / 256 ^ p % 256 * 2 ^ (8 * p - b * i))
      rw [em, w64n (bnum s / 256 ^ p % 256 * 2 ^ (8 * p - b * i)) (by omega), w64s p (by omega)]
      rw [w64 (x := ((bnum s % 2 ^ (8 * p) / 2 ^ (b * i) : Nat) : Int) + ((bnum s / 256 ^ p % 256 * 2 ^ (8 * p - b * i) : Nat) : Int)) (by omega) (by omega), w64 (x := ((8 * p - b * i : Nat) : Int) + 8) (by omega) (by omega)]
      rw [eS] at h'
      refine Ev.congr (fun k => ?_) h'
      congr 1
      omega
  · have hsm := small ((b * (i + 1) + 7) / 8) (by omega)
    have h12 : (2 : Int) ^ b ≤ 4096 := by
      have : ((2 ^ b : Nat) : Int) ≤ ((2 ^ 12 : Nat) : Int) := Int.ofNat_le.mpr (Nat.pow_le_pow_right (by omega) (by omega))
      simpa using this
    have h0 := two_pos b
    refine Ev.step (f := fun k => ((spec_l11Two.f k (b : Int)).bind fun t194 => (if t194 = 0 then (none) else (if (pieces b (bnum s) i).length < 17592186044416 then ((spec_l11Two.f k (b : Int)).bind fun t198 => (if t198 = 0 then (none) else (spec_Unpack.l0 k s (b : Int) (n : Int) (pieces b (bnum s) i ++ [Int.tmod ((bnum s % 2 ^ (8 * ((b * (i + 1) + 7) / 8)) / 2 ^ (b * i) : Nat) : Int) t194]) (wrap64 (Int.tdiv ((bnum s % 2 ^ (8 * ((b * (i + 1) + 7) / 8)) / 2 ^ (b * i) : Nat) : Int) t198)) (wrap64 (((8 * ((b * (i + 1) + 7) / 8) - b * i : Nat) : Int) - (b : Int))) ((((b * (i + 1) + 7) / 8 : Nat) : Int)) (wrap64 ((i : Int) + 1))))) else (none))))) (fun k => ?_) ?_
    · simp only [spec_Unpack.l1]
      rw [if_neg (by omega)]
    · refine Ev.bind e2 (Ev.neg (by omega) (Ev.pos (by rw [pieces_length]; omega) (Ev.bind e2 (Ev.neg (by omega) ?_))))
      have ec : (2 : Int) ^ b = ((2 ^ b : Nat) : Int) := by simp
      rw [ec, tmod_nat, tdiv_nat, mod_div_mod _ _ _ _ (by omega), ← pieces_succ, Nat.div_div_eq_div_mul, ← Nat.pow_add, ← hbs, w64n (bnum s % 2 ^ (8 * ((b * (i + 1) + 7) / 8)) / 2 ^ (b * (i + 1))) (by
        have : bnum s % 2 ^ (8 * ((b * (i + 1) + 7) / 8)) / 2 ^ (b * (i + 1)) ≤ bnum s % 2 ^ (8 * ((b * (i + 1) + 7) / 8)) / 2 ^ (b * i) := Nat.div_le_div_left (Nat.pow_le_pow_right (by omega) (by omega)) (Nat.two_pow_pos _)
        omega), w64 (x := ((8 * ((b * (i + 1) + 7) / 8) - b * i : Nat) : Int) - (b : Int)) (by omega) (by omega), w64s i (by omega)]
      refine Ev.congr (fun k => ?_) h
      congr 1
      omega

theorem spec_Unpack_ev (s : ByteArray) (b n : Int) : Ev (fun k => spec_Unpack.f k s b n) (unpackR s b n) := by
  unfold spec_Unpack.f unpackR
  simp only [l01In_eq, Option.bind_some]
  have bad : Ev (fun k => spec_Unpack.j0 k s b n [] true) (([] : List Int), false) := by
    refine Ev.step (f := fun _ => some ([], false)) (fun k => ?_) (Ev.now _)
    simp only [spec_Unpack.j0, if_true]
  by_cases hb : 1 ≤ b ∧ b ≤ 12
  · refine Ev.pos (by simpa using hb) ?_
    by_cases hn : 0 ≤ n ∧ n ≤ 1000
    · refine Ev.pos (by simpa using hn) ?_
      obtain ⟨c, rfl⟩ : ∃ c : Nat, b = (c : Int) := ⟨b.toNat, by omega⟩
      obtain ⟨m, rfl⟩ : ∃ c : Nat, n = (c : Int) := ⟨n.toNat, by omega⟩
      rw [Int.toNat_natCast, Int.toNat_natCast, len_eq (by omega) (by omega)]
      by_cases hs : s.size = (m * c + 7) / 8
      · rw [if_pos ⟨hb, hn, hs⟩, show (((s.size : Int) != (((m * c + 7) / 8 : Nat) : Int)) = false) by rw [bne_eq_false_iff_eq, hs]]
        have hmc : m * c = c * m := Nat.mul_comm _ _
        refine Ev.step (f := fun k => spec_Unpack.l0 k s (c : Int) (m : Int) [] 0 0 0 0) (fun k => ?_) ?_
        · simp only [spec_Unpack.j0]
          rw [if_neg (by decide)]
        · have key := Ev.up (g := fun i k => spec_Unpack.l0 k s (c : Int) (m : Int) (pieces c (bnum s) i) ((bnum s % 2 ^ (8 * ((c * i + 7) / 8)) / 2 ^ (c * i) : Nat) : Int) ((8 * ((c * i + 7) / 8) - c * i : Nat) : Int) (((c * i + 7) / 8 : Nat) : Int) (i : Int)) (r := if bnum s < 2 ^ (c * m) then (pieces c (bnum s) m, true) else ([], false)) m ?_ ?_ 0 (by omega)
          · simpa [pieces, Nat.mod_one] using key
          · intro i hi h
            refine Ev.step (fun k => ?_) (spec_Unpack_l1 s c m (by omega) (by omega) (by omega) hs i hi h)
            simp only [spec_Unpack.l0]
            rw [if_pos (by omega)]
          · have hlt := bnum_lt s
            rw [pow256, hs, hmc] at hlt
            have e1 : bnum s % 2 ^ (8 * ((c * m + 7) / 8)) = bnum s := Nat.mod_eq_of_lt hlt
            by_cases hq : bnum s < 2 ^ (c * m)
            · rw [if_pos hq]
              refine Ev.step (f := fun _ => some (pieces c (bnum s) m, true)) (fun k => ?_) (Ev.now _)
              simp only [spec_Unpack.l0]
              rw [if_neg (by omega), if_pos (by rw [e1, Nat.div_eq_of_lt hq]; rfl)]
            · rw [if_neg hq]
              refine Ev.step (f := fun _ => some ([], false)) (fun k => ?_) (Ev.now _)
              simp only [spec_Unpack.l0]
              have h2 : 0 < bnum s / 2 ^ (c * m) := Nat.div_pos (by omega) (Nat.two_pow_pos _)
              rw [if_neg (by omega), if_neg (by rw [e1]; omega)]
      · rw [if_neg (fun h => hs h.2.2), show (((s.size : Int) != (((m * c + 7) / 8 : Nat) : Int)) = true) by rw [bne_iff_ne]; omega]
        exact bad
    · rw [if_neg (fun h => hn h.2.1)]
      exact Ev.neg (by simpa using hn) bad
  · rw [if_neg (fun h => hb h.1)]
    exact Ev.neg (by simpa using hb) bad

theorem i64_or_bit (a t b : Nat) (ha : a < 2 ^ t) (ht : t ≤ 60) (hb : b ≤ 1) : Go.bits .or .i64 (a : Int) ((b * 2 ^ t : Nat) : Int) = ((a + b * 2 ^ t : Nat) : Int) := by
  have h7 : 2 ^ t ≤ 2 ^ 60 := Nat.pow_le_pow_right (n := 2) (by omega) ht
  have hb2 : b * 2 ^ t ≤ 2 ^ t := by
    have := Nat.mul_le_mul_right (2 ^ t) hb
    omega
  rw [(bits_nat .i64 62 (by decide) (fun n h0 h1 => by rw [IntKind.wrap_i64]; omega) a (b * 2 ^ t) (by omega) (by omega)).2, Nat.or_comm, Nat.mul_comm b, ← Nat.two_pow_add_eq_or_of_lt ha b, Nat.add_comm]

theorem div_bit (S m : Nat) : S / 256 ^ (m / 8) % 256 / 2 ^ (m % 8) % 2 = S / 2 ^ m % 2 := by
  have h1 : (256 : Nat) = 2 ^ (m % 8) * 2 ^ (8 - m % 8) := by rw [← Nat.pow_add, show m % 8 + (8 - m % 8) = 8 by omega]
  have h2 : (2 : Nat) ^ (8 - m % 8) = 2 * 2 ^ (7 - m % 8) := by rw [show 8 - m % 8 = (7 - m % 8) + 1 by omega, Nat.pow_succ, Nat.mul_comm]
  conv => lhs; rw [show S / 256 ^ (m / 8) % 256 = S / 256 ^ (m / 8) % (2 ^ (m % 8) * 2 ^ (8 - m % 8)) by rw [← h1]]
  rw [Nat.mod_mul_right_div_self, h2, Nat.mod_mul_right_mod, Nat.div_div_eq_div_mul, pow256, ← Nat.pow_add, show 8 * (m / 8) + m % 8 = m by omega]

theorem at_eq (i c j : Nat) (h : c * i + j ≤ 4611686018427387904) : wrap64 ((wrap64 ((i : Int) * (c : Int))) + (j : Int)) = ((c * i + j : Nat) : Int) := by
  have e0 : (i : Int) * (c : Int) = ((c * i : Nat) : Int) := by rw [Nat.mul_comm]; simp
  rw [e0, w64n (c * i) (by omega)]
  exact w64n (c * i + j) (by omega)
theorem unpack_bit (S b i j : Nat) (hj : j ≤ 12) :
    Go.bits .or .i64 ((S / 2 ^ (b * i) % 2 ^ j : Nat) : Int) (shl .i64 (wrap64 (Go.bits .and .u8 (shr .u8 ((S / 256 ^ ((b * i + j) / 8) % 256 : Nat) : Int) (((b * i + j) % 8 : Nat) : Int)) 1)) (j : Int)) = ((S / 2 ^ (b * i) % 2 ^ (j + 1) : Nat) : Int) := by
  have e1 : shr .u8 ((S / 256 ^ ((b * i + j) / 8) % 256 : Nat) : Int) (((b * i + j) % 8 : Nat) : Int) = ((S / 256 ^ ((b * i + j) / 8) % 256 / 2 ^ ((b * i + j) % 8) : Nat) : Int) := shr_nat .u8 _ _ (by simp [IntKind.bits]; omega)
  rw [e1, u8_and1 _ (Nat.lt_of_le_of_lt (Nat.div_le_self _ _) (Nat.mod_lt _ (by omega))), div_bit, mod_succ_bit, Nat.div_div_eq_div_mul, ← Nat.pow_add]
  have hlo : S / 2 ^ (b * i) % 2 ^ j < 2 ^ j := Nat.mod_lt _ (Nat.two_pow_pos j)
  have h12 : 2 ^ j ≤ 4096 := Nat.pow_le_pow_right (n := 2) (by omega) hj
  obtain ⟨u, hu⟩ : ∃ u, S / 2 ^ (b * i + j) % 2 = u := ⟨_, rfl⟩
  have hu1 : u ≤ 1 := by omega
  obtain ⟨q, hq⟩ : ∃ q, S / 2 ^ (b * i) % 2 ^ j = q := ⟨_, rfl⟩
  rw [hu, hq]
  rw [hq] at hlo
  have hb2 : u * 2 ^ j ≤ 4096 := Nat.le_trans (Nat.mul_le_mul_right (2 ^ j) hu1) (by omega)
  have hsh : shl .i64 (u : Int) (j : Int) = ((u * 2 ^ j : Nat) : Int) := by
    rw [shl64 _ _ (by omega), Int.toNat_natCast]
    have em : (u : Int) * 2 ^ j = ((u * 2 ^ j : Nat) : Int) := by simp
    rw [em, w64n (u * 2 ^ j) (by omega)]
  rw [w64n u (by omega), hsh, i64_or_bit q j u hlo (by omega) hu1, Nat.mul_comm u]

theorem impl_Unpack_ev (s : ByteArray) (b n : Int) : Ev (fun k => impl_Unpack.f k s b n) (unpackR s b n) := by
  unfold impl_Unpack.f unpackR
  simp only [in_eq, Option.bind_some]
  have bad : Ev (fun k => impl_Unpack.j0 k s b n true) (([] : List Int), false) := by
    refine Ev.step (f := fun _ => some ([], false)) (fun k => ?_) (Ev.now _)
    simp only [impl_Unpack.j0, if_true]
  by_cases hb : 1 ≤ b ∧ b ≤ 12
  · refine Ev.pos (by simpa using hb) ?_
    by_cases hn : 0 ≤ n ∧ n ≤ 1000
    · refine Ev.pos (by simpa using hn) ?_
      obtain ⟨c, rfl⟩ : ∃ c : Nat, b = (c : Int) := ⟨b.toNat, by omega⟩
      obtain ⟨m, rfl⟩ : ∃ c : Nat, n = (c : Int) := ⟨n.toNat, by omega⟩
      rw [Int.toNat_natCast, Int.toNat_natCast, len_eq (by omega) (by omega)]
      by_cases hs : s.size = (m * c + 7) / 8
      · rw [if_pos ⟨hb, hn, hs⟩, show (((s.size : Int) != (((m * c + 7) / 8 : Nat) : Int)) = false) by rw [bne_eq_false_iff_eq, hs]]
        have hmc : m * c = c * m := Nat.mul_comm _ _
        have hbn : c * m ≤ 12 * 1000 := Nat.mul_le_mul (by omega) (by omega)
        refine Ev.step (f := fun k => impl_Unpack.l0 k s (c : Int) [] (m : Int) 0) (fun k => ?_) ?_
        · simp only [impl_Unpack.j0]
          rw [if_neg (by decide)]
        · refine Ev.up (g := fun i k => impl_Unpack.l0 k s (c : Int) (pieces c (bnum s) i) (m : Int) (i : Int)) (r := if bnum s < 2 ^ (c * m) then (pieces c (bnum s) m, true) else ([], false)) m ?_ ?_ 0 (by omega)
          · intro i hi h
            have hib : c * (i + 1) ≤ c * m := Nat.mul_le_mul_left _ hi
            have hbs : c * (i + 1) = c * i + c := Nat.mul_succ c i
            have hic : i * c = c * i := Nat.mul_comm _ _
            refine Ev.step (f := fun k => impl_Unpack.l1 k s (c : Int) (pieces c (bnum s) i) (i : Int) 0 (m : Int) (i : Int) (c : Int) 0) (fun k => ?_) ?_
            · simp only [impl_Unpack.l0]
              rw [if_pos (by omega)]
            · have key := Ev.up (g := fun j k => impl_Unpack.l1 k s (c : Int) (pieces c (bnum s) i) (i : Int) ((bnum s / 2 ^ (c * i) % 2 ^ j : Nat) : Int) (m : Int) (i : Int) (c : Int) (j : Int)) (r := if bnum s < 2 ^ (c * m) then (pieces c (bnum s) m, true) else ([], false)) c ?_ ?_ 0 (by omega)
              · simpa [Nat.mod_one] using key
              · intro j hj h'
                refine Ev.step (fun k => ?_) h'
                have n1 : c * i + j ≤ 4611686018427387904 := by omega
                have q0 : (c * i + j) / 8 < s.size := by omega
                have j12 : j ≤ 12 := by omega
                have n3 : (c * i + j) / 8 ≤ 9223372036854775807 := by omega
                have jw := w64s j (by omega)
                have e1 := at_eq i c j n1
                have e2 : wrap64 (((c * i + j) / 8 : Nat) : Int) = (((c * i + j) / 8 : Nat) : Int) := w64n _ n3
                have e3 := bt_bnum s ((c * i + j) / 8) q0
                have e4 := unpack_bit (bnum s) c i j j12
                simp only [impl_Unpack.l1]
                rw [e1, tdiv8, tmod8, e2, if_pos (Int.ofNat_lt.mpr hj), if_pos (Int.natCast_nonneg _), if_pos (Int.ofNat_lt.mpr q0), if_pos (Int.natCast_nonneg _), if_pos (Int.natCast_nonneg _), e3, e4, jw]
              · refine Ev.step (fun k => ?_) h
                simp only [impl_Unpack.l1]
                rw [if_neg (by omega), if_pos (by rw [pieces_length]; omega), w64s i (by omega), ← pieces_succ]
          · have hlt := bnum_lt s
            have hpk : packV c (pieces c (bnum s) m) = strOfNums (bytesL s.size (bnum s % 2 ^ (c * m))) := by
              unfold packV
              rw [pieces_length, pieces_val, hs]
            have hp := impl_packed_ev (pieces c (bnum s) m) c (by omega) (by omega) (by rw [pieces_length]; omega) (pieces_fit _ _ _)
            rw [hpk] at hp
            refine Ev.step (f := fun k => (impl_packed.f k (pieces c (bnum s) m) (c : Int)).bind fun t125 => (if t125.toList = s.toList then (some (pieces c (bnum s) m, true)) else (some (([] : List Int), false)))) (fun k => ?_) (Ev.bind hp ?_)
            · simp only [impl_Unpack.l0]
              rw [if_neg (by omega)]
            · by_cases hq : bnum s < 2 ^ (c * m)
              · rw [if_pos hq]
                refine Ev.pos ?_ (Ev.now _)
                rw [Nat.mod_eq_of_lt hq, strOf_bnum]
              · rw [if_neg hq]
                refine Ev.neg (fun h => hq ?_) (Ev.now _)
                rw [bytes_toList] at h
                have h2 : strOfNums (bytesL s.size (bnum s % 2 ^ (c * m))) = strOfNums (bytesL s.size (bnum s)) := h.trans (strOf_bnum s).symm
                have h3 := strOf_inj (Nat.lt_of_le_of_lt (Nat.mod_le _ _) hlt) hlt h2
                rw [← h3]
                exact Nat.mod_lt _ (Nat.two_pow_pos _)
      · rw [if_neg (fun h => hs h.2.2), show (((s.size : Int) != (((m * c + 7) / 8 : Nat) : Int)) = true) by rw [bne_iff_ne]; omega]
        exact bad
    · rw [if_neg (fun h => hn h.2.1)]
      exact Ev.neg (by simpa using hn) bad
  · rw [if_neg (fun h => hb h.1)]
    exact Ev.neg (by simpa using hb) bad
end Go.Proofs.Ytcpgpjggnghpdaa.Pure
