/- Powers modulo 3329, and seven bits turned around, of the program and of the reference. -/
import Derived.Test.YtcpgpjggnghpdaaMV
import Derived.Test.YtcpgpjggnghpdaaMC
import Derived.Test.YtcpgpjggnghpdaaPx29
import Derived.Test.YtcpgpjggnghpdaaPx30
import Derived.Test.YtcpgpjggnghpdaaPx36
import Derived.Test.YtcpgpjggnghpdaaPx37
namespace Go.Proofs.Ytcpgpjggnghpdaa.Pure
open Go.RowKit Go.Proofs.YtcpgpjggnghpdaaW.PrintWords Go.Proofs.YtcpgpjggnghpdaaW.PrintLast Go.Proofs.YtcpgpjggnghpdaaW.PrintMore Go.Proofs.Ytcpgpjggnghpdaa.P

theorem EqQ.pow {x y : Int} (h : EqQ x y) (n : Nat) : EqQ (x ^ n) (y ^ n) := by
  induction n with
  | zero => rw [Int.pow_zero, Int.pow_zero]; exact EqQ.refl _
  | succ n ih => rw [Int.pow_succ, Int.pow_succ]; exact EqQ.mul ih h
theorem pow_half (b : Int) (e : Nat) : b ^ e = (b * b) ^ (e / 2) * b ^ (e % 2) := by
  have h1 : ∀ n : Nat, (b * b) ^ n = b ^ (2 * n) := by
    intro n
    induction n with
    | zero => rw [Nat.mul_zero, Int.pow_zero, Int.pow_zero]
    | succ n ih => rw [Int.pow_succ, ih, show 2 * (n + 1) = 2 * n + 1 + 1 by omega, Int.pow_succ, Int.pow_succ, Int.mul_assoc]
  rw [h1, ← Int.pow_add]
  congr 1
  omega
def pw (b : Int) (e : Nat) : Int := b ^ e % 3329
theorem pw_in (b : Int) (e : Nat) : 0 ≤ pw b e ∧ pw b e ≤ 3328 := mod_in _
theorem sq_mod {x y : Int} (hx : 0 ≤ x ∧ x ≤ 3328) (hy : 0 ≤ y ∧ y ≤ 3328) : Int.tmod (wrap64 (x * y)) 3329 = x * y % 3329 := by
  have := mul_bd hx hy
  rw [w64 (x := x * y) (by omega) (by omega), Int.tmod_eq_emod_of_nonneg (by omega)]
theorem half_e (e : Nat) (h : e ≤ 1000000000) : wrap64 (Int.tdiv (e : Int) 2) = ((e / 2 : Nat) : Int) := by
  rw [Int.tdiv_eq_ediv_of_nonneg (by omega), w64 (by omega) (by omega)]; rfl
theorem odd_e (e : Nat) : Int.tmod (e : Int) 2 = ((e % 2 : Nat) : Int) := by
  rw [Int.tmod_eq_emod_of_nonneg (by omega)]; rfl

theorem impl_PowQ_l0 (d : Nat) : ∀ (e : Nat) (b out : Int), e ≤ d → e ≤ 1000000000 → 0 ≤ b ∧ b ≤ 3328 → 0 ≤ out ∧ out ≤ 3328 → Ev (fun k => impl_PowQ.l0 k b (e : Int) out) (out * b ^ e % 3329) := by
  induction d with
  | zero =>
    intro e b out hd _ hb ho
    obtain rfl : e = 0 := by omega
    refine Ev.step (f := fun _ => some (out * b ^ 0 % 3329)) (fun k => ?_) (Ev.now _)
    simp only [impl_PowQ.l0]
    rw [if_neg (by omega), Int.pow_zero, Int.mul_one, Int.emod_eq_of_lt ho.1 (by omega)]
  | succ d ih =>
    intro e b out hd he hb ho
    by_cases h0 : e = 0
    · subst h0
      refine Ev.step (f := fun _ => some (out * b ^ 0 % 3329)) (fun k => ?_) (Ev.now _)
      simp only [impl_PowQ.l0]
      rw [if_neg (by omega), Int.pow_zero, Int.mul_one, Int.emod_eq_of_lt ho.1 (by omega)]
    · by_cases h1 : e % 2 = 1
      · have h := ih (e / 2) (b * b % 3329) (out * b % 3329) (by omega) (by omega) (mod_in _) (mod_in _)
        have e1 : out * b % 3329 * (b * b % 3329) ^ (e / 2) % 3329 = out * b ^ e % 3329 := by
          refine EqQ.eqm ?_
          refine (EqQ.mul (EqQ.mod _) (EqQ.pow (EqQ.mod _) _)).trans (EqQ.of ?_)
          rw [pow_half b e, h1, Int.pow_one, Int.mul_assoc, Int.mul_comm b]
        rw [e1] at h
        refine Ev.step (fun k => ?_) h
        simp only [impl_PowQ.l0]
        rw [if_pos (by omega), odd_e, if_pos (by omega), sq_mod hb hb, sq_mod ho hb, half_e e he]
      · have h := ih (e / 2) (b * b % 3329) out (by omega) (by omega) (mod_in _) ho
        have e1 : out * (b * b % 3329) ^ (e / 2) % 3329 = out * b ^ e % 3329 := by
          refine EqQ.eqm ?_
          refine (EqQ.mul (EqQ.refl _) (EqQ.pow (EqQ.mod _) _)).trans (EqQ.of ?_)
          rw [pow_half b e, show e % 2 = 0 by omega, Int.pow_zero, Int.mul_one]
        rw [e1] at h
        refine Ev.step (fun k => ?_) h
        simp only [impl_PowQ.l0]
        rw [if_pos (by omega), odd_e, if_neg (by omega), sq_mod hb hb, half_e e he]

theorem spec_PowQ_l0 (d : Nat) : ∀ (e : Nat) (b out : Int), e ≤ d → e ≤ 1000000000 → 0 ≤ b ∧ b ≤ 3328 → 0 ≤ out ∧ out ≤ 3328 → Ev (fun k => spec_PowQ.l0 k b (e : Int) out) (out * b ^ e % 3329) := by
  induction d with
  | zero =>
    intro e b out hd _ hb ho
    obtain rfl : e = 0 := by omega
    refine Ev.step (f := fun _ => some (out * b ^ 0 % 3329)) (fun k => ?_) (Ev.now _)
    simp only [spec_PowQ.l0]
    rw [if_neg (by omega), Int.pow_zero, Int.mul_one, Int.emod_eq_of_lt ho.1 (by omega)]
  | succ d ih =>
    intro e b out hd he hb ho
    by_cases h0 : e = 0
    · subst h0
      refine Ev.step (f := fun _ => some (out * b ^ 0 % 3329)) (fun k => ?_) (Ev.now _)
      simp only [spec_PowQ.l0]
      rw [if_neg (by omega), Int.pow_zero, Int.mul_one, Int.emod_eq_of_lt ho.1 (by omega)]
    · by_cases h1 : e % 2 = 1
      · have h := ih (e / 2) (b * b % 3329) (out * b % 3329) (by omega) (by omega) (mod_in _) (mod_in _)
        have e1 : out * b % 3329 * (b * b % 3329) ^ (e / 2) % 3329 = out * b ^ e % 3329 := by
          refine EqQ.eqm ?_
          refine (EqQ.mul (EqQ.mod _) (EqQ.pow (EqQ.mod _) _)).trans (EqQ.of ?_)
          rw [pow_half b e, h1, Int.pow_one, Int.mul_assoc, Int.mul_comm b]
        rw [e1] at h
        refine Ev.step (fun k => ?_) h
        simp only [spec_PowQ.l0]
        rw [if_pos (by omega), odd_e, if_pos (by omega), sq_mod hb hb, sq_mod ho hb, half_e e he]
      · have h := ih (e / 2) (b * b % 3329) out (by omega) (by omega) (mod_in _) ho
        have e1 : out * (b * b % 3329) ^ (e / 2) % 3329 = out * b ^ e % 3329 := by
          refine EqQ.eqm ?_
          refine (EqQ.mul (EqQ.refl _) (EqQ.pow (EqQ.mod _) _)).trans (EqQ.of ?_)
          rw [pow_half b e, show e % 2 = 0 by omega, Int.pow_zero, Int.mul_one]
        rw [e1] at h
        refine Ev.step (fun k => ?_) h
        simp only [spec_PowQ.l0]
        rw [if_pos (by omega), odd_e, if_neg (by omega), sq_mod hb hb, half_e e he]

theorem impl_PowQ_ev (b : Int) (hb : 0 ≤ b ∧ b ≤ 3328) (e : Nat) (he : e ≤ 1000000000) : Ev (fun k => impl_PowQ.f k b (e : Int)) (pw b e) := by
  unfold impl_PowQ.f
  simp only [in_eq, Option.bind_some]
  refine Ev.pos (decide_eq_true ⟨by omega, by omega⟩) (Ev.then (modQ_eq b (by omega) (by omega)) ?_)
  have h := impl_PowQ_l0 e e b 1 (Nat.le_refl _) he hb (by omega)
  rw [Int.one_mul] at h
  rw [Int.emod_eq_of_lt hb.1 (by omega)]
  exact h
theorem spec_PowQ_ev (b : Int) (hb : 0 ≤ b ∧ b ≤ 3328) (e : Nat) (he : e ≤ 1000000000) : Ev (fun k => spec_PowQ.f k b (e : Int)) (pw b e) := by
  unfold spec_PowQ.f
  simp only [l01In_eq, Option.bind_some]
  have hm : Int.tmod b 3329 = b := by rw [Int.tmod_eq_emod_of_nonneg hb.1, Int.emod_eq_of_lt hb.1 (by omega)]
  rw [hm]
  refine Ev.pos (decide_eq_true ⟨by omega, by omega⟩) (Ev.neg (by omega) ?_)
  have h := spec_PowQ_l0 e e b 1 (Nat.le_refl _) he hb (by omega)
  rw [Int.one_mul] at h
  refine Ev.step (fun k => ?_) h
  simp only [spec_PowQ.j0]

/-- The first i of seven bits, turned around. -/
def t7s (n : Nat) : Nat → Nat
  | 0 => 0
  | i + 1 => 2 * t7s n i + n / 2 ^ i % 2
theorem t7s_lt (n i : Nat) : t7s n i < 2 ^ i := by
  induction i with
  | zero => simp [t7s]
  | succ i ih => simp only [t7s, Nat.pow_succ]; omega
theorem t7_lt (n : Nat) : t7s n 7 < 128 := t7s_lt n 7
theorem t7s_le (n i : Nat) (h : i ≤ 7) : t7s n i ≤ 128 := by
  have h1 := t7s_lt n i
  have h2 : 2 ^ i ≤ 2 ^ 7 := Nat.pow_le_pow_right (by omega) h
  omega
theorem turn_step (n i : Nat) (h : i ≤ 7) : wrap64 ((wrap64 (2 * ((t7s n i : Nat) : Int))) + ((n / 2 ^ i % 2 : Nat) : Int)) = ((t7s n (i + 1) : Nat) : Int) := by
  have h1 := t7s_le n i h
  have h2 : n / 2 ^ i % 2 ≤ 1 := by omega
  obtain ⟨u, hu⟩ : ∃ u, n / 2 ^ i % 2 = u := ⟨_, rfl⟩
  obtain ⟨v, hv⟩ : ∃ v, t7s n i = v := ⟨_, rfl⟩
  simp only [t7s]
  rw [hu] at h2 ⊢
  rw [hv] at h1 ⊢
  rw [w64 (x := 2 * (v : Int)) (by omega) (by omega), w64 (by omega) (by omega)]
  omega
theorem impl_Turn7_ev (n : Nat) (hn : n < 128) : Ev (fun k => impl_Turn7.f k (n : Int)) ((t7s n 7 : Nat) : Int) := by
  unfold impl_Turn7.f
  refine Ev.up (g := fun i k => impl_Turn7.l0 k (n : Int) ((t7s n i : Nat) : Int) (i : Int)) 7 ?_ ?_ 0 (by omega)
  · intro i hi h
    refine Ev.step (fun k => ?_) h
    have e1 : shr .i64 (n : Int) (i : Int) = ((n / 2 ^ i : Nat) : Int) := shr_nat .i64 n i (by simp [IntKind.bits]; omega)
    have e2 := i64_and1 (n / 2 ^ i) (Nat.lt_of_le_of_lt (Nat.div_le_self _ _) (Nat.lt_trans hn (by decide)))
    have e3 := turn_step n i (Nat.le_of_lt hi)
    have e4 := w64s i (Nat.lt_trans hi (by decide))
    simp only [impl_Turn7.l0]
    rw [if_pos (show (i : Int) < 7 from Int.ofNat_lt.mpr hi), if_pos (Int.natCast_nonneg _), e1, e2, e3, e4]
  · refine Ev.step (f := fun _ => some ((t7s n 7 : Nat) : Int)) (fun k => ?_) (Ev.now _)
    simp only [impl_Turn7.l0]
    rw [if_neg (by omega)]
theorem spec_Turn7_ev (n : Nat) (hn : n < 128) : Ev (fun k => spec_Turn7.f k (n : Int)) ((t7s n 7 : Nat) : Int) := by
  unfold spec_Turn7.f
  have hm : Int.tmod (n : Int) 128 = (n : Int) := by rw [Int.tmod_eq_emod_of_nonneg (by omega), Int.emod_eq_of_lt (by omega) (by omega)]
  rw [hm]
  refine Ev.neg (by omega) ?_
  refine Ev.step (f := fun k => spec_Turn7.l0 k (n : Int) 0 0) (fun k => ?_) ?_
  · simp only [spec_Turn7.j0]
  · have key := Ev.up (g := fun i k => spec_Turn7.l0 k ((n / 2 ^ i : Nat) : Int) ((t7s n i : Nat) : Int) (i : Int)) (r := ((t7s n 7 : Nat) : Int)) 7 ?_ ?_ 0 (by omega)
    · simpa [t7s] using key
    · intro i hi h
      refine Ev.step (fun k => ?_) h
      have e1 : Int.tmod ((n / 2 ^ i : Nat) : Int) 2 = ((n / 2 ^ i % 2 : Nat) : Int) := odd_e _
      have e2 := half_e (n / 2 ^ i) (Nat.le_trans (Nat.div_le_self _ _) (Nat.le_trans (Nat.le_of_lt hn) (by decide)))
      have e3 := turn_step n i (Nat.le_of_lt hi)
      have e4 := w64s i (Nat.lt_trans hi (by decide))
      have e5 : n / 2 ^ i / 2 = n / 2 ^ (i + 1) := by rw [Nat.div_div_eq_div_mul, Nat.pow_succ]
      simp only [spec_Turn7.l0]
      rw [if_pos (show (i : Int) < 7 from Int.ofNat_lt.mpr hi), e1, e2, e3, e4, e5]
    · refine Ev.step (f := fun _ => some ((t7s n 7 : Nat) : Int)) (fun k => ?_) (Ev.now _)
      simp only [spec_Turn7.l0]
      rw [if_neg (by omega)]
/-- The powers of 17 that the transforms take. -/
def zed (n : Nat) : Int := pw 17 (t7s n 7)
theorem zed_in (n : Nat) : 0 ≤ zed n ∧ zed n ≤ 3328 := pw_in _ _
end Go.Proofs.Ytcpgpjggnghpdaa.Pure
