/- Powers modulo 3329, and seven bits turned around, of the program and of the reference. The transform Ntt, of the program and of the reference: seven layers of butterflies. The transform InvNtt: its butterflies and layers. (Drafted from P2.) The transform InvNtt, of the program: one butterfly row. The transform InvNtt, of the program: one layer. The transform InvNtt, of the reference: one butterfly row, one layer. The transform InvNtt, of the program and of the reference, whole. Products of transforms, MulNtt, of the program and of the reference: pair by pair. The transform as sums: what each layer answers at each place; that it goes through sums; its closed form; that the layers back undo it. Products by transforms are products. -/
import Derived.Test.YthkbgflbbnjcpaaMVV
import Derived.Test.YthkbgflbbnjcpaaMPK
import Derived.Test.YthkbgflbbnjcpaaPx2
import Derived.Test.YthkbgflbbnjcpaaPx3
import Derived.Test.YthkbgflbbnjcpaaPx4
import Derived.Test.YthkbgflbbnjcpaaPx6
import Derived.Test.YthkbgflbbnjcpaaPx12
import Derived.Test.YthkbgflbbnjcpaaPx13
import Derived.Test.YthkbgflbbnjcpaaPx15
import Derived.Test.YthkbgflbbnjcpaaPx16
namespace Go.Proofs.Ythkbgflbbnjcpaa.Pure
open Go.RowKit Go.Proofs.YthkbgflbbnjcpaaW.PrintWords Go.Proofs.YthkbgflbbnjcpaaW.PrintLast Go.Proofs.YthkbgflbbnjcpaaW.PrintMore Go.Proofs.Ythkbgflbbnjcpaa.P

theorem EqQ.pow {x y : Int} (h : EqQ x y) (n : Nat) : EqQ (x ^ n) (y ^ n) := by
  induction n with
  | zero => rw [Int.pow_zero, Int.pow_zero]; exact EqQ.refl _
  | succ n ih => rw [Int.pow_succ, Int.pow_succ]; exact EqQ.mul ih h
theorem pow_half (b : Int) (e : Nat) : b ^ e = (b * b) ^ (e / 2) * b ^ (e % 2) := by
  have h1 : ∀ n : Nat, (b * b) ^ n = b ^ (2 * n) := by
    intro n
    induction n with
    | zero => rw [Nat.mul_zero, Int.pow_zero, Int.pow_zero]
    | succ n ih => rw [Int.pow_succ, ih, show 2 * (n + 1) = 2 * n + 1 + 1 by omega, Int.pow_succ, Int.pow_succ, Int.mul_assoc]
  rw [h1, ← Int.pow_add]
  congr 1
  omega
def pw (b : Int) (e : Nat) : Int := b ^ e % 3329
theorem pw_in (b : Int) (e : Nat) : 0 ≤ pw b e ∧ pw b e ≤ 3328 := mod_in _
theorem sq_mod {x y : Int} (hx : 0 ≤ x ∧ x ≤ 3328) (hy : 0 ≤ y ∧ y ≤ 3328) : Int.tmod (wrap64 (x * y)) 3329 = x * y % 3329 := by
  have := mul_bd hx hy
  rw [w64 (x := x * y) (by omega) (by omega), Int.tmod_eq_emod_of_nonneg (by omega)]
theorem half_e (e : Nat) (h : e ≤ 1000000000) : wrap64 (Int.tdiv (e : Int) 2) = ((e / 2 : Nat) : Int) := by
  rw [Int.tdiv_eq_ediv_of_nonneg (by omega), w64 (by omega) (by omega)]; rfl
theorem odd_e (e : Nat) : Int.tmod (e : Int) 2 = ((e % 2 : Nat) : Int) := by
  rw [Int.tmod_eq_emod_of_nonneg (by omega)]; rfl

theorem impl_PowQ_l0 (d : Nat) : ∀ (e : Nat) (b out : Int), e ≤ d → e ≤ 1000000000 → 0 ≤ b ∧ b ≤ 3328 → 0 ≤ out ∧ out ≤ 3328 → Ev (fun k => impl_PowQ.l0 k b (e : Int) out) (out * b ^ e % 3329) := by
  induction d with
  | zero =>
    intro e b out hd _ hb ho
    obtain rfl : e = 0 := by omega
    refine Ev.step (f := fun _ => some (out * b ^ 0 % 3329)) (fun k => ?_) (Ev.now _)
    simp only [impl_PowQ.l0]
    rw [if_neg (by omega), Int.pow_zero, Int.mul_one, Int.emod_eq_of_lt ho.1 (by omega)]
  | succ d ih =>
    intro e b out hd he hb ho
    by_cases h0 : e = 0
    · subst h0
      refine Ev.step (f := fun _ => some (out * b ^ 0 % 3329)) (fun k => ?_) (Ev.now _)
      simp only [impl_PowQ.l0]
      rw [if_neg (by omega), Int.pow_zero, Int.mul_one, Int.emod_eq_of_lt ho.1 (by omega)]
    · by_cases h1 : e % 2 = 1
      · have h := ih (e / 2) (b * b % 3329) (out * b % 3329) (by omega) (by omega) (mod_in _) (mod_in _)
        have e1 : out * b % 3329 * (b * b % 3329) ^ (e / 2) % 3329 = out * b ^ e % 3329 := by
          refine EqQ.eqm ?_
          refine (EqQ.mul (EqQ.mod _) (EqQ.pow (EqQ.mod _) _)).trans (EqQ.of ?_)
          rw [pow_half b e, h1, Int.pow_one, Int.mul_assoc, Int.mul_comm b]
        rw [e1] at h
        refine Ev.step (fun k => ?_) h
        simp only [impl_PowQ.l0]
        rw [if_pos (by omega), odd_e, if_pos (by omega), sq_mod hb hb, sq_mod ho hb, half_e e he]
      · have h := ih (e / 2) (b * b % 3329) out (by omega) (by omega) (mod_in _) ho
        have e1 : out * (b * b % 3329) ^ (e / 2) % 3329 = out * b ^ e % 3329 := by
          refine EqQ.eqm ?_
          refine (EqQ.mul (EqQ.refl _) (EqQ.pow (EqQ.mod _) _)).trans (EqQ.of ?_)
          rw [pow_half b e, show e % 2 = 0 by omega, Int.pow_zero, Int.mul_one]
        rw [e1] at h
        refine Ev.step (fun k => ?_) h
        simp only [impl_PowQ.l0]
        rw [if_pos (by omega), odd_e, if_neg (by omega), sq_mod hb hb, half_e e he]

theorem spec_PowQ_l0 (d : Nat) : ∀ (e : Nat) (b out : Int), e ≤ d → e ≤ 1000000000 → 0 ≤ b ∧ b ≤ 3328 → 0 ≤ out ∧ out ≤ 3328 → Ev (fun k => spec_PowQ.l0 k b (e : Int) out) (out * b ^ e % 3329) := by
  induction d with
  | zero =>
    intro e b out hd _ hb ho
    obtain rfl : e = 0 := by omega
    refine Ev.step (f := fun _ => some (out * b ^ 0 % 3329)) (fun k => ?_) (Ev.now _)
    simp only [spec_PowQ.l0]
    rw [if_neg (by omega), Int.pow_zero, Int.mul_one, Int.emod_eq_of_lt ho.1 (by omega)]
  | succ d ih =>
    intro e b out hd he hb ho
    by_cases h0 : e = 0
    · subst h0
      refine Ev.step (f := fun _ => some (out * b ^ 0 % 3329)) (fun k => ?_) (Ev.now _)
      simp only [spec_PowQ.l0]
      rw [if_neg (by omega), Int.pow_zero, Int.mul_one, Int.emod_eq_of_lt ho.1 (by omega)]
    · by_cases h1 : e % 2 = 1
      · have h := ih (e / 2) (b * b % 3329) (out * b % 3329) (by omega) (by omega) (mod_in _) (mod_in _)
        have e1 : out * b % 3329 * (b * b % 3329) ^ (e / 2) % 3329 = out * b ^ e % 3329 := by
          refine EqQ.eqm ?_
          refine (EqQ.mul (EqQ.mod _) (EqQ.pow (EqQ.mod _) _)).trans (EqQ.of ?_)
          rw [pow_half b e, h1, Int.pow_one, Int.mul_assoc, Int.mul_comm b]
        rw [e1] at h
        refine Ev.step (fun k => ?_) h
        simp only [spec_PowQ.l0]
        rw [if_pos (by omega), odd_e, if_pos (by omega), sq_mod hb hb, sq_mod ho hb, half_e e he]
      · have h := ih (e / 2) (b * b % 3329) out (by omega) (by omega) (mod_in _) ho
        have e1 : out * (b * b % 3329) ^ (e / 2) % 3329 = out * b ^ e % 3329 := by
          refine EqQ.eqm ?_
          refine (EqQ.mul (EqQ.refl _) (EqQ.pow (EqQ.mod _) _)).trans (EqQ.of ?_)
          rw [pow_half b e, show e % 2 = 0 by omega, Int.pow_zero, Int.mul_one]
        rw [e1] at h
        refine Ev.step (fun k => ?_) h
        simp only [spec_PowQ.l0]
        rw [if_pos (by omega), odd_e, if_neg (by omega), sq_mod hb hb, half_e e he]

theorem impl_PowQ_ev (b : Int) (hb : 0 ≤ b ∧ b ≤ 3328) (e : Nat) (he : e ≤ 1000000000) : Ev (fun k => impl_PowQ.f k b (e : Int)) (pw b e) := by
  unfold impl_PowQ.f
  simp only [in_eq, Option.bind_some]
  refine Ev.pos (decide_eq_true ⟨by omega, by omega⟩) (Ev.then (modQ_eq b (by omega) (by omega)) ?_)
  have h := impl_PowQ_l0 e e b 1 (Nat.le_refl _) he hb (by omega)
  rw [Int.one_mul] at h
  rw [Int.emod_eq_of_lt hb.1 (by omega)]
  exact h
theorem spec_PowQ_ev (b : Int) (hb : 0 ≤ b ∧ b ≤ 3328) (e : Nat) (he : e ≤ 1000000000) : Ev (fun k => spec_PowQ.f k b (e : Int)) (pw b e) := by
  unfold spec_PowQ.f
  simp only [l01In_eq, Option.bind_some]
  have hm : Int.tmod b 3329 = b := by rw [Int.tmod_eq_emod_of_nonneg hb.1, Int.emod_eq_of_lt hb.1 (by omega)]
  rw [hm]
  refine Ev.pos (decide_eq_true ⟨by omega, by omega⟩) (Ev.neg (by omega) ?_)
  have h := spec_PowQ_l0 e e b 1 (Nat.le_refl _) he hb (by omega)
  rw [Int.one_mul] at h
  refine Ev.step (fun k => ?_) h
  simp only [spec_PowQ.j0]

/-- The first i of seven bits, turned around. -/
def t7s (n : Nat) : Nat → Nat
  | 0 => 0
  | i + 1 => 2 * t7s n i + n / 2 ^ i % 2
theorem t7s_lt (n i : Nat) : t7s n i < 2 ^ i := by
  induction i with
  | zero => simp [t7s]
  | succ i ih => simp only [t7s, Nat.pow_succ]; omega
theorem t7_lt (n : Nat) : t7s n 7 < 128 := t7s_lt n 7
theorem t7s_le (n i : Nat) (h : i ≤ 7) : t7s n i ≤ 128 := by
  have h1 := t7s_lt n i
  have h2 : 2 ^ i ≤ 2 ^ 7 := Nat.pow_le_pow_right (by omega) h
  omega
theorem turn_step (n i : Nat) (h : i ≤ 7) : wrap64 ((wrap64 (2 * ((t7s n i : Nat) : Int))) + ((n / 2 ^ i % 2 : Nat) : Int)) = ((t7s n (i + 1) : Nat) : Int) := by
  have h1 := t7s_le n i h
  have h2 : n / 2 ^ i % 2 ≤ 1 := by omega
  obtain ⟨u, hu⟩ : ∃ u, n / 2 ^ i % 2 = u := ⟨_, rfl⟩
  obtain ⟨v, hv⟩ : ∃ v, t7s n i = v := ⟨_, rfl⟩
  simp only [t7s]
  rw [hu] at h2 ⊢
  rw [hv] at h1 ⊢
  rw [w64 (x := 2 * (v : Int)) (by omega) (by omega), w64 (by omega) (by omega)]
  omega
theorem impl_Turn7_ev (n : Nat) (hn : n < 128) : Ev (fun k => impl_Turn7.f k (n : Int)) ((t7s n 7 : Nat) : Int) := by
  unfold impl_Turn7.f
  refine Ev.up (g := fun i k => impl_Turn7.l0 k (n : Int) ((t7s n i : Nat) : Int) (i : Int)) 7 ?_ ?_ 0 (by omega)
  · intro i hi h
    refine Ev.step (fun k => ?_) h
    have e1 : shr .i64 (n : Int) (i : Int) = ((n / 2 ^ i : Nat) : Int) := shr_nat .i64 n i (by simp [IntKind.bits]; omega)
    have e2 := i64_and1 (n / 2 ^ i) (Nat.lt_of_le_of_lt (Nat.div_le_self _ _) (Nat.lt_trans hn (by decide)))
    have e3 := turn_step n i (Nat.le_of_lt hi)
    have e4 := w64s i (Nat.lt_trans hi (by decide))
    simp only [impl_Turn7.l0]
    rw [if_pos (show (i : Int) < 7 from Int.ofNat_lt.mpr hi), if_pos (Int.natCast_nonneg _), e1, e2, e3, e4]
  · refine Ev.step (f := fun _ => some ((t7s n 7 : Nat) : Int)) (fun k => ?_) (Ev.now _)
    simp only [impl_Turn7.l0]
    rw [if_neg (by omega)]
theorem spec_Turn7_ev (n : Nat) (hn : n < 128) : Ev (fun k => spec_Turn7.f k (n : Int)) ((t7s n 7 : Nat) : Int) := by
  unfold spec_Turn7.f
  have hm : Int.tmod (n : Int) 128 = (n : Int) := by rw [Int.tmod_eq_emod_of_nonneg (by omega), Int.emod_eq_of_lt (by omega) (by omega)]
  rw [hm]
  refine Ev.neg (by omega) ?_
  refine Ev.step (f := fun k => spec_Turn7.l0 k (n : Int) 0 0) (fun k => ?_) ?_
  · simp only [spec_Turn7.j0]
  · have key := Ev.up (g := fun i k => spec_Turn7.l0 k ((n / 2 ^ i : Nat) : Int) ((t7s n i : Nat) : Int) (i : Int)) (r := ((t7s n 7 : Nat) : Int)) 7 ?_ ?_ 0 (by omega)
    · simpa [t7s] using key
    · intro i hi h
      refine Ev.step (fun k => ?_) h
      have e1 : Int.tmod ((n / 2 ^ i : Nat) : Int) 2 = ((n / 2 ^ i % 2 : Nat) : Int) := odd_e _
      have e2 := half_e (n / 2 ^ i) (Nat.le_trans (Nat.div_le_self _ _) (Nat.le_trans (Nat.le_of_lt hn) (by decide)))
      have e3 := turn_step n i (Nat.le_of_lt hi)
      have e4 := w64s i (Nat.lt_trans hi (by decide))
      have e5 : n / 2 ^ i / 2 = n / 2 ^ (i + 1) := by rw [Nat.div_div_eq_div_mul, Nat.pow_succ]
      simp only [spec_Turn7.l0]
      rw [if_pos (show (i : Int) < 7 from Int.ofNat_lt.mpr hi), e1, e2, e3, e4, e5]
    · refine Ev.step (f := fun _ => some ((t7s n 7 : Nat) : Int)) (fun k => ?_) (Ev.now _)
      simp only [spec_Turn7.l0]
      rw [if_neg (by omega)]
/-- The powers of 17 that the transforms take. -/
def zed (n : Nat) : Int := pw 17 (t7s n 7)
theorem zed_in (n : Nat) : 0 ≤ zed n ∧ zed n ≤ 3328 := pw_in _ _

theorem wadd (a b : Nat) (h : a + b ≤ 100000) : wrap64 ((a : Int) + (b : Int)) = ((a + b : Nat) : Int) := by rw [w64 (by omega) (by omega)]; omega
theorem wdbl (a : Nat) (h : a ≤ 100000) : wrap64 (2 * (a : Int)) = ((2 * a : Nat) : Int) := by rw [w64 (by omega) (by omega)]; omega
theorem whalf (a : Nat) (h : a ≤ 100000) : wrap64 (Int.tdiv (a : Int) 2) = ((a / 2 : Nat) : Int) := half_e a (by omega)
theorem wmul_in {x y : Int} (hx : 0 ≤ x ∧ x ≤ 3328) (hy : 0 ≤ y ∧ y ≤ 3328) : wrap64 (x * y) = x * y := by
  have := mul_bd hx hy
  exact w64 (by omega) (by omega)

/-- A butterfly on the numbers from st on, s of them with the s behind; the first j of them done. -/
def bfp (z : Int) (s st j : Nat) (f : Nat → Int) : Nat → Int := fun n =>
  if st ≤ n ∧ n < st + j then (f n + z * f (n + s)) % 3329 else if st + s ≤ n ∧ n < st + s + j then (f (n - s) - z * f n) % 3329 else f n
theorem bfp_0 (z : Int) (s st : Nat) (f : Nat → Int) : bfp z s st 0 f = f := by
  funext n; unfold bfp; rw [if_neg (by omega), if_neg (by omega)]
theorem bfp_in {z : Int} {s st j : Nat} {f : Nat → Int} (hf : ∀ i, 0 ≤ f i ∧ f i ≤ 3328) (n : Nat) : 0 ≤ bfp z s st j f n ∧ bfp z s st j f n ≤ 3328 := by
  unfold bfp
  split
  · exact mod_in _
  · split
    · exact mod_in _
    · exact hf n
theorem bfp_at1 {z : Int} {s st j : Nat} {f : Nat → Int} (h : j < s) : bfp z s st j f (st + j) = f (st + j) := by
  unfold bfp; rw [if_neg (by omega), if_neg (by omega)]
theorem bfp_at2 {z : Int} {s st j : Nat} {f : Nat → Int} : bfp z s st j f (st + j + s) = f (st + j + s) := by
  unfold bfp; rw [if_neg (by omega), if_neg (by omega)]
theorem bfp_step (z : Int) (s st j : Nat) (f : Nat → Int) (hj : j < s) : ((vec (bfp z s st j f)).set (st + j) ((f (st + j) + z * f (st + j + s)) % 3329)).set (st + j + s) ((f (st + j) - z * f (st + j + s)) % 3329) = vec (bfp z s st (j + 1) f) := by
  rw [vec_set, vec_set]
  refine vec_congr fun n _ => ?_
  by_cases h2 : n = st + j + s
  · subst h2
    rw [if_pos rfl]
    unfold bfp
    rw [if_neg (by omega), if_pos (by omega), show st + j + s - s = st + j by omega]
  · rw [if_neg h2]
    by_cases h1 : n = st + j
    · subst h1
      rw [if_pos rfl]
      unfold bfp
      rw [if_pos (by omega)]
    · rw [if_neg h1]
      unfold bfp
      by_cases a : st ≤ n ∧ n < st + j
      · rw [if_pos a, if_pos (by omega)]
      · have a' : ¬ (st ≤ n ∧ n < st + (j + 1)) := by omega
        rw [if_neg a, if_neg a']
        by_cases b : st + s ≤ n ∧ n < st + s + j
        · rw [if_pos b, if_pos (show st + s ≤ n ∧ n < st + s + (j + 1) by omega)]
        · rw [if_neg b, if_neg (show ¬ (st + s ≤ n ∧ n < st + s + (j + 1)) by omega)]
theorem bfp_swap (z : Int) (s st j : Nat) (f : Nat → Int) (hs : 1 ≤ s) (A B : Int) : ((vec (bfp z s st j f)).set (st + j + s) B).set (st + j) A = ((vec (bfp z s st j f)).set (st + j) A).set (st + j + s) B :=
  List.set_comm _ _ (by omega)

/-- A layer: the first t butterflies of m, each of s and s numbers. -/
def lay (s m : Nat) : Nat → (Nat → Int) → Nat → Int
  | 0, f => f
  | t + 1, f => bfp (zed (m + t)) s (2 * s * t) s (lay s m t f)
theorem lay_in {s m : Nat} {f : Nat → Int} (hf : ∀ i, 0 ≤ f i ∧ f i ≤ 3328) (t : Nat) : ∀ n, 0 ≤ lay s m t f n ∧ lay s m t f n ≤ 3328 := by
  induction t with
  | zero => exact hf
  | succ t ih => exact fun n => bfp_in ih n
def nttV (f : Nat → Int) : Nat → Int := lay 2 64 64 (lay 4 32 32 (lay 8 16 16 (lay 16 8 8 (lay 32 4 4 (lay 64 2 2 (lay 128 1 1 f))))))
theorem nttV_in {f : Nat → Int} (hf : ∀ i, 0 ≤ f i ∧ f i ≤ 3328) : ∀ n, 0 ≤ nttV f n ∧ nttV f n ≤ 3328 :=
  lay_in (lay_in (lay_in (lay_in (lay_in (lay_in (lay_in hf 1) 2) 4) 8) 16) 32) 64

theorem impl_Ntt_l2 (f : Nat → Int) (hf : ∀ i, 0 ≤ f i ∧ f i ≤ 3328) (z : Int) (hz : 0 ≤ z ∧ z ≤ 3328) (s st : Nat) (K : Int) (hs : 1 ≤ s) (hst : st + 2 * s ≤ 256) {r : List Int}
    (h : Ev (fun k => impl_Ntt.l1 k (vec (bfp z s st s f)) K (s : Int) ((st + 2 * s : Nat) : Int)) r) : Ev (fun k => impl_Ntt.l2 k (vec f) K (s : Int) (st : Int) z (st : Int)) r := by
  have e0 : vec f = vec (bfp z s st 0 f) := by rw [bfp_0]
  have w1 := wadd st s (by omega)
  rw [e0]
  refine Ev.up (g := fun j k => impl_Ntt.l2 k (vec (bfp z s st j f)) K (s : Int) (st : Int) z ((st + j : Nat) : Int)) s ?_ ?_ 0 (by omega)
  · intro j hj h'
    refine Ev.step (fun k => ?_) h'
    have c1 : st + j < st + s := Nat.add_lt_add_left hj _
    have c2 : st + j + s < 256 := Nat.lt_of_lt_of_le (Nat.add_lt_add_right c1 s) (Nat.le_trans (by rw [Nat.two_mul, Nat.add_assoc]; exact Nat.le_refl _) hst)
    have c3 : st + j < 256 := Nat.lt_of_le_of_lt (Nat.le_add_right _ s) c2
    have w2 := wadd (st + j) s (Nat.le_trans (Nat.le_of_lt c2) (by decide))
    have w3 : wrap64 (((st + j : Nat) : Int) + 1) = ((st + (j + 1) : Nat) : Int) := w64s (st + j) (Nat.lt_trans c3 (by decide))
    have hm := mul_bd hz (hf (st + j + s))
    have h1 := hf (st + j)
    simp only [impl_Ntt.l2]
    rw [w1]
    clear e0 w1
    rw [if_pos (Int.ofNat_lt.mpr c1), w2, if_pos (Int.natCast_nonneg _), if_pos (by rw [vec_length]; exact Int.ofNat_lt.mpr c2), if_pos (Int.natCast_nonneg _), if_pos (by rw [vec_length]; exact Int.ofNat_lt.mpr c3), vec_rd _ _ c3, vec_rd _ _ c2, bfp_at1 hj, bfp_at2, wmul_in hz (hf _), w64 (x := f (st + j) + z * f (st + j + s)) (by omega) (by omega), w64 (x := f (st + j) - z * f (st + j + s)) (by omega) (by omega), modQ_eq _ (by omega) (by omega), Option.bind_some, modQ_eq _ (by omega) (by omega), Option.bind_some, Int.toNat_natCast, Int.toNat_natCast, bfp_step z s st j f hj, w3]
  · refine Ev.step (fun k => ?_) h
    have c1 : ¬ ((st + s : Nat) : Int) < ((st + s : Nat) : Int) := Int.lt_irrefl _
    have w4 := wdbl s (by clear w1; omega)
    have w5 := wadd st (2 * s) (by clear w1 w4; omega)
    simp only [impl_Ntt.l2]
    rw [w1, if_neg c1, w4, w5]

theorem impl_Ntt_lay (s m : Nat) (hsm : 2 * s * m = 256) (hs : 1 ≤ s) (hm : 1 ≤ m) (f : Nat → Int) (hf : ∀ i, 0 ≤ f i ∧ f i ≤ 3328) (hs2 : 2 ≤ s) {r : List Int}
    (h : Ev (fun k => impl_Ntt.l0 k (vec (lay s m m f)) ((2 * m : Nat) : Int) ((s / 2 : Nat) : Int)) r) : Ev (fun k => impl_Ntt.l0 k (vec f) (m : Int) (s : Int)) r := by
  have hs128 : s ≤ 128 := by
    have : 2 * s * 1 ≤ 2 * s * m := Nat.mul_le_mul_left _ hm
    omega
  have hm128 : m ≤ 128 := by
    have : 2 * m ≤ 2 * s * m := Nat.mul_le_mul_right _ (by omega)
    omega
  refine Ev.step (f := fun k => impl_Ntt.l1 k (vec f) (m : Int) (s : Int) 0) (fun k => ?_) ?_
  · simp only [impl_Ntt.l0]
    rw [if_pos (by omega)]
  · refine Ev.up (g := fun t k => impl_Ntt.l1 k (vec (lay s m t f)) ((m + t : Nat) : Int) (s : Int) ((2 * s * t : Nat) : Int)) m ?_ ?_ 0 (by omega)
    · intro t ht h'
      have c0 : 2 * s * t + 2 * s ≤ 256 := by rw [← Nat.mul_succ, ← hsm]; exact Nat.mul_le_mul_left _ ht
      have ek : m + t < 128 := by
        have : 4 * m ≤ 2 * s * m := Nat.mul_le_mul_right _ (by omega)
        omega
      have w1 := w64s (m + t) (Nat.lt_trans ek (by decide))
      have h2 := impl_Ntt_l2 (lay s m t f) (lay_in hf t) (zed (m + t)) (zed_in _) s (2 * s * t) ((m + t + 1 : Nat) : Int) hs c0 h'
      have cond : ((2 * s * t : Nat) : Int) < 256 := by clear w1; omega
      refine Ev.step (f := fun k => (impl_Turn7.f k ((m + t : Nat) : Int)).bind fun t287 => ((impl_PowQ.f k 17 t287).bind fun t288 => (impl_Ntt.l2 k (vec (lay s m t f)) (wrap64 (((m + t : Nat) : Int) + 1)) (s : Int) ((2 * s * t : Nat) : Int) t288 ((2 * s * t : Nat) : Int)))) (fun k => ?_) ?_
      · simp only [impl_Ntt.l1]
        rw [if_pos cond]
      · rw [w1]
        exact Ev.bind (impl_Turn7_ev (m + t) ek) (Ev.bind (impl_PowQ_ev 17 (by decide) _ (Nat.le_trans (Nat.le_of_lt (t7_lt _)) (by decide))) h2)
    · refine Ev.step (fun k => ?_) h
      have w1 := whalf s (by omega)
      have c1 : ¬ ((2 * s * m : Nat) : Int) < 256 := by clear w1; omega
      simp only [impl_Ntt.l1]
      rw [if_neg c1, w1, show m + m = 2 * m by rw [Nat.two_mul]]
theorem impl_Ntt_ev (f : Nat → Int) (hf : ∀ i, 0 ≤ f i ∧ f i ≤ 3328) : Ev (fun k => impl_Ntt.f k (vec f)) (vec (nttV f)) := by
  have core : Ev (fun k => impl_Ntt.l0 k (vec f) 1 128) (vec (nttV f)) := by
    have i1 := lay_in (s := 128) (m := 1) hf 1
    have i2 := lay_in (s := 64) (m := 2) i1 2
    have i3 := lay_in (s := 32) (m := 4) i2 4
    have i4 := lay_in (s := 16) (m := 8) i3 8
    have i5 := lay_in (s := 8) (m := 16) i4 16
    have i6 := lay_in (s := 4) (m := 32) i5 32
    refine impl_Ntt_lay 128 1 (by decide) (by decide) (by decide) f hf (by decide) ?_
    refine impl_Ntt_lay 64 2 (by decide) (by decide) (by decide) _ i1 (by decide) ?_
    refine impl_Ntt_lay 32 4 (by decide) (by decide) (by decide) _ i2 (by decide) ?_
    refine impl_Ntt_lay 16 8 (by decide) (by decide) (by decide) _ i3 (by decide) ?_
    refine impl_Ntt_lay 8 16 (by decide) (by decide) (by decide) _ i4 (by decide) ?_
    refine impl_Ntt_lay 4 32 (by decide) (by decide) (by decide) _ i5 (by decide) ?_
    refine impl_Ntt_lay 2 64 (by decide) (by decide) (by decide) _ i6 (by decide) ?_
    refine Ev.step (f := fun _ => some (vec (nttV f))) (fun k => ?_) (Ev.now _)
    simp only [impl_Ntt.l0]
    rw [if_neg (by decide)]
    rfl
  unfold impl_Ntt.f
  have ok := vec_ok (f := f) fun i _ => hf i
  have ln := vec_length f
  refine Ev.bind (ok ▸ impl_PolyOk_ev (vec f) (by omega)) (Ev.pos rfl ?_)
  refine Ev.then (a := vec f) ?_ core
  unfold impl_copyInts.f
  rw [if_pos (by rw [ln]; decide), List.nil_append]

theorem spec_Ntt_l2 (f : Nat → Int) (hf : ∀ i, 0 ≤ f i ∧ f i ≤ 3328) (z : Int) (hz : 0 ≤ z ∧ z ≤ 3328) (s st : Nat) (K : Int) (hs : 1 ≤ s) (hst : st + 2 * s ≤ 256) {r : List Int}
    (h : Ev (fun k => spec_Ntt.l1 k (vec (bfp z s st s f)) K (s : Int) ((st + 2 * s : Nat) : Int)) r) : Ev (fun k => spec_Ntt.l2 k (vec f) K (s : Int) (st : Int) z (st : Int)) r := by
  have e0 : vec f = vec (bfp z s st 0 f) := by rw [bfp_0]
  have w1 := wadd st s (by omega)
  rw [e0]
  refine Ev.up (g := fun j k => spec_Ntt.l2 k (vec (bfp z s st j f)) K (s : Int) (st : Int) z ((st + j : Nat) : Int)) s ?_ ?_ 0 (by omega)
  · intro j hj h'
    refine Ev.step (fun k => ?_) h'
    have c1 : st + j < st + s := Nat.add_lt_add_left hj _
    have c2 : st + j + s < 256 := Nat.lt_of_lt_of_le (Nat.add_lt_add_right c1 s) (Nat.le_trans (by rw [Nat.two_mul, Nat.add_assoc]; exact Nat.le_refl _) hst)
    have c3 : st + j < 256 := Nat.lt_of_le_of_lt (Nat.le_add_right _ s) c2
    have w2 := wadd (st + j) s (Nat.le_trans (Nat.le_of_lt c2) (by decide))
    have w3 : wrap64 (((st + j : Nat) : Int) + 1) = ((st + (j + 1) : Nat) : Int) := w64s (st + j) (Nat.lt_trans c3 (by decide))
    have hm := mul_bd hz (hf (st + j + s))
    have h1 := hf (st + j)
    simp only [spec_Ntt.l2, Option.bind_some]
    rw [w1]
    clear e0 w1
    rw [if_pos (Int.ofNat_lt.mpr c1), w2, if_pos (Int.natCast_nonneg _), if_pos (by rw [vec_length]; exact Int.ofNat_lt.mpr c2), if_pos (Int.natCast_nonneg _), if_pos (by rw [vec_length]; exact Int.ofNat_lt.mpr c3), vec_rd _ _ c3, vec_rd _ _ c2, bfp_at1 hj, bfp_at2, sq_mod hz (hf _), Int.toNat_natCast, Int.toNat_natCast, vec_set, vec_rd _ _ c3, if_neg (show ¬ st + j = st + j + s by omega), bfp_at1 hj, ← vec_set]
    rw [show Int.tmod (wrap64 ((wrap64 (f (st + j) - z * f (st + j + s) % 3329)) + 3329)) 3329 = (f (st + j) - z * f (st + j + s)) % 3329 by
      rw [w64 (x := f (st + j) - z * f (st + j + s) % 3329) (by omega) (by omega), w64 (by omega) (by omega), Int.tmod_eq_emod_of_nonneg (by omega)]; omega]
    rw [show Int.tmod (wrap64 (f (st + j) + z * f (st + j + s) % 3329)) 3329 = (f (st + j) + z * f (st + j + s)) % 3329 by
      rw [w64 (by omega) (by omega), Int.tmod_eq_emod_of_nonneg (by omega)]; omega]
    rw [bfp_swap z s st j f hs, bfp_step z s st j f hj, w3]
  · refine Ev.step (fun k => ?_) h
    have c1 : ¬ ((st + s : Nat) : Int) < ((st + s : Nat) : Int) := Int.lt_irrefl _
    have w4 := wdbl s (by clear w1; omega)
    have w5 := wadd st (2 * s) (by clear w1 w4; omega)
    simp only [spec_Ntt.l2]
    rw [w1, if_neg c1, w4, w5]

theorem spec_Ntt_lay (s m : Nat) (hsm : 2 * s * m = 256) (hs : 1 ≤ s) (hm : 1 ≤ m) (f : Nat → Int) (hf : ∀ i, 0 ≤ f i ∧ f i ≤ 3328) (hs2 : 2 ≤ s) {r : List Int}
    (h : Ev (fun k => spec_Ntt.l0 k (vec (lay s m m f)) ((2 * m : Nat) : Int) ((s / 2 : Nat) : Int)) r) : Ev (fun k => spec_Ntt.l0 k (vec f) (m : Int) (s : Int)) r := by
  have hs128 : s ≤ 128 := by
    have : 2 * s * 1 ≤ 2 * s * m := Nat.mul_le_mul_left _ hm
    omega
  have hm128 : m ≤ 128 := by
    have : 2 * m ≤ 2 * s * m := Nat.mul_le_mul_right _ (by omega)
    omega
  refine Ev.step (f := fun k => spec_Ntt.l1 k (vec f) (m : Int) (s : Int) 0) (fun k => ?_) ?_
  · simp only [spec_Ntt.l0]
    rw [if_pos (by omega)]
  · refine Ev.up (g := fun t k => spec_Ntt.l1 k (vec (lay s m t f)) ((m + t : Nat) : Int) (s : Int) ((2 * s * t : Nat) : Int)) m ?_ ?_ 0 (by omega)
    · intro t ht h'
      have c0 : 2 * s * t + 2 * s ≤ 256 := by rw [← Nat.mul_succ, ← hsm]; exact Nat.mul_le_mul_left _ ht
      have ek : m + t < 128 := by
        have : 4 * m ≤ 2 * s * m := Nat.mul_le_mul_right _ (by omega)
        omega
      have w1 := w64s (m + t) (Nat.lt_trans ek (by decide))
      have h2 := spec_Ntt_l2 (lay s m t f) (lay_in hf t) (zed (m + t)) (zed_in _) s (2 * s * t) ((m + t + 1 : Nat) : Int) hs c0 h'
      have cond : ((2 * s * t : Nat) : Int) < 256 := by clear w1; omega
      refine Ev.step (f := fun k => (spec_Turn7.f k ((m + t : Nat) : Int)).bind fun t287 => ((spec_PowQ.f k 17 t287).bind fun t288 => (spec_Ntt.l2 k (vec (lay s m t f)) (wrap64 (((m + t : Nat) : Int) + 1)) (s : Int) ((2 * s * t : Nat) : Int) t288 ((2 * s * t : Nat) : Int)))) (fun k => ?_) ?_
      · simp only [spec_Ntt.l1]
        rw [if_pos cond]
      · rw [w1]
        exact Ev.bind (spec_Turn7_ev (m + t) ek) (Ev.bind (spec_PowQ_ev 17 (by decide) _ (Nat.le_trans (Nat.le_of_lt (t7_lt _)) (by decide))) h2)
    · refine Ev.step (fun k => ?_) h
      have w1 := whalf s (by omega)
      have c1 : ¬ ((2 * s * m : Nat) : Int) < 256 := by clear w1; omega
      simp only [spec_Ntt.l1]
      rw [if_neg c1, w1, show m + m = 2 * m by rw [Nat.two_mul]]
theorem spec_Ntt_ev (f : Nat → Int) (hf : ∀ i, 0 ≤ f i ∧ f i ≤ 3328) : Ev (fun k => spec_Ntt.f k (vec f)) (vec (nttV f)) := by
  have core : Ev (fun k => spec_Ntt.l0 k (vec f) 1 128) (vec (nttV f)) := by
    have i1 := lay_in (s := 128) (m := 1) hf 1
    have i2 := lay_in (s := 64) (m := 2) i1 2
    have i3 := lay_in (s := 32) (m := 4) i2 4
    have i4 := lay_in (s := 16) (m := 8) i3 8
    have i5 := lay_in (s := 8) (m := 16) i4 16
    have i6 := lay_in (s := 4) (m := 32) i5 32
    refine spec_Ntt_lay 128 1 (by decide) (by decide) (by decide) f hf (by decide) ?_
    refine spec_Ntt_lay 64 2 (by decide) (by decide) (by decide) _ i1 (by decide) ?_
    refine spec_Ntt_lay 32 4 (by decide) (by decide) (by decide) _ i2 (by decide) ?_
    refine spec_Ntt_lay 16 8 (by decide) (by decide) (by decide) _ i3 (by decide) ?_
    refine spec_Ntt_lay 8 16 (by decide) (by decide) (by decide) _ i4 (by decide) ?_
    refine spec_Ntt_lay 4 32 (by decide) (by decide) (by decide) _ i5 (by decide) ?_
    refine spec_Ntt_lay 2 64 (by decide) (by decide) (by decide) _ i6 (by decide) ?_
    refine Ev.step (f := fun _ => some (vec (nttV f))) (fun k => ?_) (Ev.now _)
    simp only [spec_Ntt.l0]
    rw [if_neg (by decide)]
    rfl
  unfold spec_Ntt.f
  have ok := vec_ok (f := f) fun i _ => hf i
  have ln := vec_length f
  refine Ev.bind (ok ▸ spec_PolyOk_ev (vec f)) (Ev.pos rfl ?_)
  simp only [Option.bind_some]
  refine Ev.pos (by rw [ln]; decide) ?_
  rw [List.nil_append]
  exact core

/-- A butterfly back on the numbers from st on, s of them with the s behind; the first j of them done. -/
def bfi (z : Int) (s st j : Nat) (f : Nat → Int) : Nat → Int := fun n =>
  if st ≤ n ∧ n < st + j then (f n + f (n + s)) % 3329 else if st + s ≤ n ∧ n < st + s + j then (z * (f n - f (n - s))) % 3329 else f n
theorem bfi_0 (z : Int) (s st : Nat) (f : Nat → Int) : bfi z s st 0 f = f := by
  funext n; unfold bfi; rw [if_neg (by omega), if_neg (by omega)]
theorem bfi_in {z : Int} {s st j : Nat} {f : Nat → Int} (hf : ∀ i, 0 ≤ f i ∧ f i ≤ 3328) (n : Nat) : 0 ≤ bfi z s st j f n ∧ bfi z s st j f n ≤ 3328 := by
  unfold bfi
  split
  · exact mod_in _
  · split
    · exact mod_in _
    · exact hf n
theorem bfi_at1 {z : Int} {s st j : Nat} {f : Nat → Int} (h : j < s) : bfi z s st j f (st + j) = f (st + j) := by
  unfold bfi; rw [if_neg (by omega), if_neg (by omega)]
theorem bfi_at2 {z : Int} {s st j : Nat} {f : Nat → Int} : bfi z s st j f (st + j + s) = f (st + j + s) := by
  unfold bfi; rw [if_neg (by omega), if_neg (by omega)]
theorem bfi_step (z : Int) (s st j : Nat) (f : Nat → Int) (hj : j < s) : ((vec (bfi z s st j f)).set (st + j) ((f (st + j) + f (st + j + s)) % 3329)).set (st + j + s) ((z * (f (st + j + s) - f (st + j))) % 3329) = vec (bfi z s st (j + 1) f) := by
  rw [vec_set, vec_set]
  refine vec_congr fun n _ => ?_
  by_cases h2 : n = st + j + s
  · subst h2
    rw [if_pos rfl]
    unfold bfi
    rw [if_neg (by omega), if_pos (by omega), show st + j + s - s = st + j by omega]
  · rw [if_neg h2]
    by_cases h1 : n = st + j
    · subst h1
      rw [if_pos rfl]
      unfold bfi
      rw [if_pos (by omega)]
    · rw [if_neg h1]
      unfold bfi
      by_cases a : st ≤ n ∧ n < st + j
      · rw [if_pos a, if_pos (by omega)]
      · have a' : ¬ (st ≤ n ∧ n < st + (j + 1)) := by omega
        rw [if_neg a, if_neg a']
        by_cases b : st + s ≤ n ∧ n < st + s + j
        · rw [if_pos b, if_pos (show st + s ≤ n ∧ n < st + s + (j + 1) by omega)]
        · rw [if_neg b, if_neg (show ¬ (st + s ≤ n ∧ n < st + s + (j + 1)) by omega)]
theorem bfi_swap (z : Int) (s st j : Nat) (f : Nat → Int) (hs : 1 ≤ s) (A B : Int) : ((vec (bfi z s st j f)).set (st + j + s) B).set (st + j) A = ((vec (bfi z s st j f)).set (st + j) A).set (st + j + s) B :=
  List.set_comm _ _ (by omega)

/-- A layer back: the first t butterflies of m, each of s and s numbers; the powers are taken from 2m-1 downwards. -/
def layI (s m : Nat) : Nat → (Nat → Int) → Nat → Int
  | 0, f => f
  | t + 1, f => bfi (zed (2 * m - 1 - t)) s (2 * s * t) s (layI s m t f)
theorem layI_in {s m : Nat} {f : Nat → Int} (hf : ∀ i, 0 ≤ f i ∧ f i ≤ 3328) (t : Nat) : ∀ n, 0 ≤ layI s m t f n ∧ layI s m t f n ≤ 3328 := by
  induction t with
  | zero => exact hf
  | succ t ih => exact fun n => bfi_in ih n
def invV (f : Nat → Int) : Nat → Int := fun n => layI 128 1 1 (layI 64 2 2 (layI 32 4 4 (layI 16 8 8 (layI 8 16 16 (layI 4 32 32 (layI 2 64 64 f)))))) n * 3303 % 3329

theorem mul_bd2 {z x y : Int} (hz : 0 ≤ z ∧ z ≤ 3328) (hx : 0 ≤ x ∧ x ≤ 3328) (hy : 0 ≤ y ∧ y ≤ 3328) : -11075584 ≤ z * (y - x) ∧ z * (y - x) ≤ 11075584 := by
  have h1 := mul_bd hz hx
  have h2 := mul_bd hz hy
  rw [Int.mul_sub]
  omega
theorem impl_InvNtt_l2 (f : Nat → Int) (hf : ∀ i, 0 ≤ f i ∧ f i ≤ 3328) (z : Int) (hz : 0 ≤ z ∧ z ≤ 3328) (s st : Nat) (K : Int) (hs : 1 ≤ s) (hst : st + 2 * s ≤ 256) {r : List Int}
    (h : Ev (fun k => impl_InvNtt.l1 k (vec (bfi z s st s f)) K (s : Int) ((st + 2 * s : Nat) : Int)) r) : Ev (fun k => impl_InvNtt.l2 k (vec f) K (s : Int) (st : Int) z (st : Int)) r := by
  have e0 : vec f = vec (bfi z s st 0 f) := by rw [bfi_0]
  have w1 := wadd st s (by omega)
  rw [e0]
  refine Ev.up (g := fun j k => impl_InvNtt.l2 k (vec (bfi z s st j f)) K (s : Int) (st : Int) z ((st + j : Nat) : Int)) s ?_ ?_ 0 (by omega)
  · intro j hj h'
    refine Ev.step (fun k => ?_) h'
    have c1 : st + j < st + s := Nat.add_lt_add_left hj _
    have c2 : st + j + s < 256 := Nat.lt_of_lt_of_le (Nat.add_lt_add_right c1 s) (Nat.le_trans (by rw [Nat.two_mul, Nat.add_assoc]; exact Nat.le_refl _) hst)
    have c3 : st + j < 256 := Nat.lt_of_le_of_lt (Nat.le_add_right _ s) c2
    have w2 := wadd (st + j) s (Nat.le_trans (Nat.le_of_lt c2) (by decide))
    have w3 : wrap64 (((st + j : Nat) : Int) + 1) = ((st + (j + 1) : Nat) : Int) := w64s (st + j) (Nat.lt_trans c3 (by decide))
    have h1 := hf (st + j)
    have h2 := hf (st + j + s)
    have hm := mul_bd2 hz h1 h2
    simp only [impl_InvNtt.l2]
    rw [w1]
    clear e0 w1
    rw [if_pos (Int.ofNat_lt.mpr c1), w2, if_pos (Int.natCast_nonneg _), if_pos (by rw [vec_length]; exact Int.ofNat_lt.mpr c3), if_pos (Int.natCast_nonneg _), if_pos (by rw [vec_length]; exact Int.ofNat_lt.mpr c2), vec_rd _ _ c3, vec_rd _ _ c2, bfi_at1 hj, bfi_at2, w64 (x := f (st + j) + f (st + j + s)) (by omega) (by omega), w64 (x := f (st + j + s) - f (st + j)) (by omega) (by omega), w64 (x := z * (f (st + j + s) - f (st + j))) (by omega) (by omega), modQ_eq _ (by omega) (by omega), Option.bind_some, modQ_eq _ (by omega) (by omega), Option.bind_some, Int.toNat_natCast, Int.toNat_natCast, bfi_step z s st j f hj, w3]
  · refine Ev.step (fun k => ?_) h
    have c1 : ¬ ((st + s : Nat) : Int) < ((st + s : Nat) : Int) := Int.lt_irrefl _
    have w4 := wdbl s (by clear w1; omega)
    have w5 := wadd st (2 * s) (by clear w1 w4; omega)
    simp only [impl_InvNtt.l2]
    rw [w1, if_neg c1, w4, w5]


theorem wpred (a : Nat) (h1 : 1 ≤ a) (h : a ≤ 100000) : wrap64 ((a : Int) - 1) = ((a - 1 : Nat) : Int) := by rw [w64 (by omega) (by omega)]; omega
theorem wtwice (a : Nat) (h : a ≤ 100000) : wrap64 ((a : Int) * 2) = ((a * 2 : Nat) : Int) := by rw [w64 (by omega) (by omega)]; omega
theorem impl_InvNtt_lay (s m : Nat) (hsm : 2 * s * m = 256) (hs : 2 ≤ s) (hm : 1 ≤ m) (f : Nat → Int) (hf : ∀ i, 0 ≤ f i ∧ f i ≤ 3328) {r : List Int}
    (h : Ev (fun k => impl_InvNtt.l0 k (vec (layI s m m f)) ((2 * m - 1 - m : Nat) : Int) ((s * 2 : Nat) : Int)) r) : Ev (fun k => impl_InvNtt.l0 k (vec f) ((2 * m - 1 : Nat) : Int) (s : Int)) r := by
  have hs128 : s ≤ 128 := by
    have : 2 * s * 1 ≤ 2 * s * m := Nat.mul_le_mul_left _ hm
    omega
  have hm64 : 2 * m ≤ 128 := by
    have : 4 * m ≤ 2 * s * m := Nat.mul_le_mul_right _ (by omega)
    omega
  refine Ev.step (f := fun k => impl_InvNtt.l1 k (vec f) ((2 * m - 1 : Nat) : Int) (s : Int) 0) (fun k => ?_) ?_
  · simp only [impl_InvNtt.l0]
    rw [if_pos (by omega)]
  · refine Ev.up (g := fun t k => impl_InvNtt.l1 k (vec (layI s m t f)) ((2 * m - 1 - t : Nat) : Int) (s : Int) ((2 * s * t : Nat) : Int)) m ?_ ?_ 0 (by omega)
    · intro t ht h'
      have c0 : 2 * s * t + 2 * s ≤ 256 := by rw [← Nat.mul_succ, ← hsm]; exact Nat.mul_le_mul_left _ ht
      have ek : 2 * m - 1 - t < 128 := by omega
      have w1 := wpred (2 * m - 1 - t) (by omega) (by omega)
      have e1 : 2 * m - 1 - t - 1 = 2 * m - 1 - (t + 1) := by clear w1; omega
      rw [e1] at w1
      have h2 := impl_InvNtt_l2 (layI s m t f) (layI_in hf t) (zed (2 * m - 1 - t)) (zed_in _) s (2 * s * t) ((2 * m - 1 - (t + 1) : Nat) : Int) (Nat.le_trans (by decide) hs) c0 h'
      have cond : ((2 * s * t : Nat) : Int) < 256 := by clear w1; omega
      refine Ev.step (f := fun k => (impl_Turn7.f k ((2 * m - 1 - t : Nat) : Int)).bind fun t300 => ((impl_PowQ.f k 17 t300).bind fun t301 => (impl_InvNtt.l2 k (vec (layI s m t f)) (wrap64 (((2 * m - 1 - t : Nat) : Int) - 1)) (s : Int) ((2 * s * t : Nat) : Int) t301 ((2 * s * t : Nat) : Int)))) (fun k => ?_) ?_
      · simp only [impl_InvNtt.l1]
        rw [if_pos cond]
      · rw [w1]
        exact Ev.bind (impl_Turn7_ev _ ek) (Ev.bind (impl_PowQ_ev 17 (by decide) _ (Nat.le_trans (Nat.le_of_lt (t7_lt _)) (by decide))) h2)
    · refine Ev.step (fun k => ?_) h
      have w1 := wtwice s (by omega)
      have c1 : ¬ ((2 * s * m : Nat) : Int) < 256 := by clear w1; omega
      simp only [impl_InvNtt.l1]
      rw [if_neg c1, w1]

theorem spec_back {z x y : Int} (hz : 0 ≤ z ∧ z ≤ 3328) (hx : 0 ≤ x ∧ x ≤ 3328) (hy : 0 ≤ y ∧ y ≤ 3328) : Int.tmod (wrap64 (z * (wrap64 ((wrap64 (y - x)) + 3329)))) 3329 = z * (y - x) % 3329 := by
  have h0 := mul_bd2 hz hx hy
  have e : z * (y - x + 3329) = z * (y - x) + 3329 * z := by rw [Int.mul_add, Int.mul_comm z 3329]
  have hn : 0 ≤ z * (y - x + 3329) := Int.mul_nonneg hz.1 (by omega)
  rw [w64 (x := y - x) (by omega) (by omega), w64 (x := y - x + 3329) (by omega) (by omega), w64 (x := z * (y - x + 3329)) (by omega) (by omega), Int.tmod_eq_emod_of_nonneg hn, e]
  omega
theorem spec_InvNtt_l2 (f : Nat → Int) (hf : ∀ i, 0 ≤ f i ∧ f i ≤ 3328) (z : Int) (hz : 0 ≤ z ∧ z ≤ 3328) (s st : Nat) (K : Int) (hs : 1 ≤ s) (hst : st + 2 * s ≤ 256) {r : List Int}
    (h : Ev (fun k => spec_InvNtt.l1 k (vec (bfi z s st s f)) K (s : Int) ((st + 2 * s : Nat) : Int)) r) : Ev (fun k => spec_InvNtt.l2 k (vec f) K (s : Int) (st : Int) z (st : Int)) r := by
  have e0 : vec f = vec (bfi z s st 0 f) := by rw [bfi_0]
  have w1 := wadd st s (by omega)
  rw [e0]
  refine Ev.up (g := fun j k => spec_InvNtt.l2 k (vec (bfi z s st j f)) K (s : Int) (st : Int) z ((st + j : Nat) : Int)) s ?_ ?_ 0 (by omega)
  · intro j hj h'
    refine Ev.step (fun k => ?_) h'
    have c1 : st + j < st + s := Nat.add_lt_add_left hj _
    have c2 : st + j + s < 256 := Nat.lt_of_lt_of_le (Nat.add_lt_add_right c1 s) (Nat.le_trans (by rw [Nat.two_mul, Nat.add_assoc]; exact Nat.le_refl _) hst)
    have c3 : st + j < 256 := Nat.lt_of_le_of_lt (Nat.le_add_right _ s) c2
    have w2 := wadd (st + j) s (Nat.le_trans (Nat.le_of_lt c2) (by decide))
    have w3 : wrap64 (((st + j : Nat) : Int) + 1) = ((st + (j + 1) : Nat) : Int) := w64s (st + j) (Nat.lt_trans c3 (by decide))
    have h1 := hf (st + j)
    have h2 := hf (st + j + s)
    have hm := mul_bd2 hz h1 h2
    have nj : ¬ st + j + s = st + j := by clear e0 w1 w2; omega
    have ey : ∀ v : Int, rd ((vec (bfi z s st j f)).set (st + j) v) ((st + j + s : Nat) : Int) = f (st + j + s) := by
      intro v
      rw [vec_set, vec_rd _ _ c2, if_neg nj, bfi_at2]
    have em := spec_back hz h1 h2
    simp only [spec_InvNtt.l2, Option.bind_some]
    rw [w1]
    clear e0 w1
    rw [if_pos (Int.ofNat_lt.mpr c1), w2, if_pos (Int.natCast_nonneg _), if_pos (by rw [vec_length]; exact Int.ofNat_lt.mpr c3), if_pos (Int.natCast_nonneg _), if_pos (by rw [vec_length]; exact Int.ofNat_lt.mpr c2), Int.toNat_natCast, Int.toNat_natCast, ey, vec_rd _ _ c3, bfi_at1 hj, vec_rd _ _ c2, bfi_at2, em, w64 (x := f (st + j) + f (st + j + s)) (by omega) (by omega), Int.tmod_eq_emod_of_nonneg (show 0 ≤ f (st + j) + f (st + j + s) by omega), bfi_step z s st j f hj, w3]
  · refine Ev.step (fun k => ?_) h
    have c1 : ¬ ((st + s : Nat) : Int) < ((st + s : Nat) : Int) := Int.lt_irrefl _
    have w4 := wdbl s (by clear w1; omega)
    have w5 := wadd st (2 * s) (by clear w1 w4; omega)
    simp only [spec_InvNtt.l2]
    rw [w1, if_neg c1, w4, w5]

theorem spec_InvNtt_lay (s m : Nat) (hsm : 2 * s * m = 256) (hs : 2 ≤ s) (hm : 1 ≤ m) (f : Nat → Int) (hf : ∀ i, 0 ≤ f i ∧ f i ≤ 3328) {r : List Int}
    (h : Ev (fun k => spec_InvNtt.l0 k (vec (layI s m m f)) ((2 * m - 1 - m : Nat) : Int) ((s * 2 : Nat) : Int)) r) : Ev (fun k => spec_InvNtt.l0 k (vec f) ((2 * m - 1 : Nat) : Int) (s : Int)) r := by
  have hs128 : s ≤ 128 := by
    have : 2 * s * 1 ≤ 2 * s * m := Nat.mul_le_mul_left _ hm
    omega
  have hm64 : 2 * m ≤ 128 := by
    have : 4 * m ≤ 2 * s * m := Nat.mul_le_mul_right _ (by omega)
    omega
  refine Ev.step (f := fun k => spec_InvNtt.l1 k (vec f) ((2 * m - 1 : Nat) : Int) (s : Int) 0) (fun k => ?_) ?_
  · simp only [spec_InvNtt.l0]
    rw [if_pos (by omega)]
  · refine Ev.up (g := fun t k => spec_InvNtt.l1 k (vec (layI s m t f)) ((2 * m - 1 - t : Nat) : Int) (s : Int) ((2 * s * t : Nat) : Int)) m ?_ ?_ 0 (by omega)
    · intro t ht h'
      have c0 : 2 * s * t + 2 * s ≤ 256 := by rw [← Nat.mul_succ, ← hsm]; exact Nat.mul_le_mul_left _ ht
      have ek : 2 * m - 1 - t < 128 := by omega
      have w1 := wpred (2 * m - 1 - t) (by omega) (by omega)
      have e1 : 2 * m - 1 - t - 1 = 2 * m - 1 - (t + 1) := by clear w1; omega
      rw [e1] at w1
      have h2 := spec_InvNtt_l2 (layI s m t f) (layI_in hf t) (zed (2 * m - 1 - t)) (zed_in _) s (2 * s * t) ((2 * m - 1 - (t + 1) : Nat) : Int) (Nat.le_trans (by decide) hs) c0 h'
      have cond : ((2 * s * t : Nat) : Int) < 256 := by clear w1; omega
      refine Ev.step (f := fun k => (spec_Turn7.f k ((2 * m - 1 - t : Nat) : Int)).bind fun t300 => ((spec_PowQ.f k 17 t300).bind fun t301 => (spec_InvNtt.l2 k (vec (layI s m t f)) (wrap64 (((2 * m - 1 - t : Nat) : Int) - 1)) (s : Int) ((2 * s * t : Nat) : Int) t301 ((2 * s * t : Nat) : Int)))) (fun k => ?_) ?_
      · simp only [spec_InvNtt.l1]
        rw [if_pos cond]
      · rw [w1]
        exact Ev.bind (spec_Turn7_ev _ ek) (Ev.bind (spec_PowQ_ev 17 (by decide) _ (Nat.le_trans (Nat.le_of_lt (t7_lt _)) (by decide))) h2)
    · refine Ev.step (fun k => ?_) h
      have w1 := wtwice s (by omega)
      have c1 : ¬ ((2 * s * m : Nat) : Int) < 256 := by clear w1; omega
      simp only [spec_InvNtt.l1]
      rw [if_neg c1, w1]

def fin3 (f : Nat → Int) (i : Nat) : Nat → Int := fun n => if n < i then f n * 3303 % 3329 else f n
theorem fin3_0 (f : Nat → Int) : fin3 f 0 = f := rfl
theorem fin3_all (f : Nat → Int) : vec (fin3 f 256) = vec fun n => f n * 3303 % 3329 := vec_congr fun _ hn => if_pos hn
theorem fin3_step (f : Nat → Int) (i : Nat) : (vec (fin3 f i)).set i (f i * 3303 % 3329) = vec (fin3 f (i + 1)) := by
  rw [vec_set]
  refine vec_congr fun n _ => ?_
  unfold fin3
  by_cases e : n = i
  · subst e; rw [if_pos rfl, if_pos (by omega)]
  · rw [if_neg e]
    by_cases h : n < i
    · rw [if_pos h, if_pos (by omega)]
    · rw [if_neg h, if_neg (by omega)]
theorem impl_InvNtt_l3 (f : Nat → Int) (hf : ∀ i, 0 ≤ f i ∧ f i ≤ 3328) : Ev (fun k => impl_InvNtt.l3 k (vec f) ((256 : Nat) : Int) 0) (vec fun n => f n * 3303 % 3329) := by
  have e0 : vec f = vec (fin3 f 0) := by rw [fin3_0]
  rw [e0]
  refine Ev.up (g := fun i k => impl_InvNtt.l3 k (vec (fin3 f i)) ((256 : Nat) : Int) (i : Int)) 256 ?_ ?_ 0 (by omega)
  · intro i hi h
    refine Ev.step (fun k => ?_) h
    have hb := hf i
    have ei : fin3 f i i = f i := if_neg (Nat.lt_irrefl _)
    simp only [impl_InvNtt.l3]
    rw [if_pos (by omega), if_pos (by omega), if_pos (by rw [vec_length]; omega), vec_rd _ _ hi, ei, w64 (x := f i * 3303) (by omega) (by omega), modQ_eq _ (by omega) (by omega), Option.bind_some, Int.toNat_natCast, fin3_step, w64s i (by omega)]
  · refine Ev.step (f := fun _ => some (vec (fin3 f 256))) (fun k => ?_) ?_
    · simp only [impl_InvNtt.l3]
      rw [if_neg (by omega)]
    · rw [fin3_all]; exact Ev.now _
theorem spec_InvNtt_l3 (f : Nat → Int) (hf : ∀ i, 0 ≤ f i ∧ f i ≤ 3328) : Ev (fun k => spec_InvNtt.l3 k (vec f) 0) (vec fun n => f n * 3303 % 3329) := by
  have e0 : vec f = vec (fin3 f 0) := by rw [fin3_0]
  rw [e0]
  refine Ev.up (g := fun i k => spec_InvNtt.l3 k (vec (fin3 f i)) (i : Int)) 256 ?_ ?_ 0 (by omega)
  · intro i hi h
    refine Ev.step (fun k => ?_) h
    have hb := hf i
    have ei : fin3 f i i = f i := if_neg (Nat.lt_irrefl _)
    simp only [spec_InvNtt.l3]
    rw [if_pos (by omega), if_pos (by omega), if_pos (by rw [vec_length]; omega), vec_rd _ _ hi, ei, w64 (x := f i * 3303) (by omega) (by omega), Int.tmod_eq_emod_of_nonneg (show 0 ≤ f i * 3303 by omega), Int.toNat_natCast, fin3_step, w64s i (by omega)]
  · refine Ev.step (f := fun _ => some (vec (fin3 f 256))) (fun k => ?_) ?_
    · simp only [spec_InvNtt.l3]
      rw [if_neg (by omega)]
    · rw [fin3_all]; exact Ev.now _
theorem impl_InvNtt_ev (f : Nat → Int) (hf : ∀ i, 0 ≤ f i ∧ f i ≤ 3328) : Ev (fun k => impl_InvNtt.f k (vec f)) (vec (invV f)) := by
  have core : Ev (fun k => impl_InvNtt.l0 k (vec f) 127 2) (vec (invV f)) := by
    have i1 := layI_in (s := 2) (m := 64) hf 64
    have i2 := layI_in (s := 4) (m := 32) i1 32
    have i3 := layI_in (s := 8) (m := 16) i2 16
    have i4 := layI_in (s := 16) (m := 8) i3 8
    have i5 := layI_in (s := 32) (m := 4) i4 4
    have i6 := layI_in (s := 64) (m := 2) i5 2
    have i7 := layI_in (s := 128) (m := 1) i6 1
    refine impl_InvNtt_lay 2 64 (by decide) (by decide) (by decide) f hf ?_
    refine impl_InvNtt_lay 4 32 (by decide) (by decide) (by decide) _ i1 ?_
    refine impl_InvNtt_lay 8 16 (by decide) (by decide) (by decide) _ i2 ?_
    refine impl_InvNtt_lay 16 8 (by decide) (by decide) (by decide) _ i3 ?_
    refine impl_InvNtt_lay 32 4 (by decide) (by decide) (by decide) _ i4 ?_
    refine impl_InvNtt_lay 64 2 (by decide) (by decide) (by decide) _ i5 ?_
    refine impl_InvNtt_lay 128 1 (by decide) (by decide) (by decide) _ i6 ?_
    refine Ev.step (fun k => ?_) (impl_InvNtt_l3 _ i7)
    simp only [impl_InvNtt.l0]
    rw [if_neg (by decide), vec_length]
  unfold impl_InvNtt.f
  have ok := vec_ok (f := f) fun i _ => hf i
  have ln := vec_length f
  refine Ev.bind (ok ▸ impl_PolyOk_ev (vec f) (by omega)) (Ev.pos rfl ?_)
  refine Ev.then (a := vec f) ?_ core
  unfold impl_copyInts.f
  rw [if_pos (by rw [ln]; decide), List.nil_append]

theorem spec_InvNtt_ev (f : Nat → Int) (hf : ∀ i, 0 ≤ f i ∧ f i ≤ 3328) : Ev (fun k => spec_InvNtt.f k (vec f)) (vec (invV f)) := by
  have core : Ev (fun k => spec_InvNtt.l0 k (vec f) 127 2) (vec (invV f)) := by
    have i1 := layI_in (s := 2) (m := 64) hf 64
    have i2 := layI_in (s := 4) (m := 32) i1 32
    have i3 := layI_in (s := 8) (m := 16) i2 16
    have i4 := layI_in (s := 16) (m := 8) i3 8
    have i5 := layI_in (s := 32) (m := 4) i4 4
    have i6 := layI_in (s := 64) (m := 2) i5 2
    have i7 := layI_in (s := 128) (m := 1) i6 1
    refine spec_InvNtt_lay 2 64 (by decide) (by decide) (by decide) f hf ?_
    refine spec_InvNtt_lay 4 32 (by decide) (by decide) (by decide) _ i1 ?_
    refine spec_InvNtt_lay 8 16 (by decide) (by decide) (by decide) _ i2 ?_
    refine spec_InvNtt_lay 16 8 (by decide) (by decide) (by decide) _ i3 ?_
    refine spec_InvNtt_lay 32 4 (by decide) (by decide) (by decide) _ i4 ?_
    refine spec_InvNtt_lay 64 2 (by decide) (by decide) (by decide) _ i5 ?_
    refine spec_InvNtt_lay 128 1 (by decide) (by decide) (by decide) _ i6 ?_
    refine Ev.step (fun k => ?_) (spec_InvNtt_l3 _ i7)
    simp only [spec_InvNtt.l0]
    rw [if_neg (by decide)]
  unfold spec_InvNtt.f
  have ok := vec_ok (f := f) fun i _ => hf i
  have ln := vec_length f
  refine Ev.bind (ok ▸ spec_PolyOk_ev (vec f)) (Ev.pos rfl ?_)
  simp only [Option.bind_some]
  refine Ev.pos (by rw [ln]; decide) ?_
  rw [List.nil_append]
  exact core

def gam (i : Nat) : Int := pw 17 (2 * t7s i 7 + 1)
theorem gam_in (i : Nat) : 0 ≤ gam i ∧ gam i ≤ 3328 := pw_in _ _
def mnE (a b : Nat → Int) (i : Nat) : Int := (a (2 * i) * b (2 * i) + a (2 * i + 1) * b (2 * i + 1) % 3329 * gam i) % 3329
def mnO (a b : Nat → Int) (i : Nat) : Int := (a (2 * i) * b (2 * i + 1) + a (2 * i + 1) * b (2 * i)) % 3329
def mulNttV (a b : Nat → Int) (n : Nat) : Int := if n % 2 = 0 then mnE a b (n / 2) else mnO a b (n / 2)
theorem mulNttV_e (a b : Nat → Int) (i : Nat) : mulNttV a b (2 * i) = mnE a b i := by
  unfold mulNttV; rw [if_pos (by omega), show 2 * i / 2 = i by omega]
theorem mulNttV_o (a b : Nat → Int) (i : Nat) : mulNttV a b (2 * i + 1) = mnO a b i := by
  unfold mulNttV; rw [if_neg (by omega), show (2 * i + 1) / 2 = i by omega]
theorem mulNttV_in (a b : Nat → Int) (n : Nat) : 0 ≤ mulNttV a b n ∧ mulNttV a b n ≤ 3328 := by
  unfold mulNttV mnE mnO
  split
  · exact mod_in _
  · exact mod_in _
theorem turn2 (i : Nat) : wrap64 ((wrap64 (2 * ((t7s i 7 : Nat) : Int))) + 1) = ((2 * t7s i 7 + 1 : Nat) : Int) := by
  have h := t7_lt i
  have h1 : t7s i 7 ≤ 100000 := by omega
  have h2 : 2 * t7s i 7 < 9223372036854775807 := by omega
  rw [wdbl _ h1, w64s _ h2]
theorem pow17_ok (i : Nat) : 2 * t7s i 7 + 1 ≤ 1000000000 := by have := t7_lt i; omega
theorem mnE_w (a b : Nat → Int) (ha : ∀ i, 0 ≤ a i ∧ a i ≤ 3328) (hb : ∀ i, 0 ≤ b i ∧ b i ≤ 3328) (i : Nat) :
    wrap64 ((wrap64 (a (2 * i) * b (2 * i))) + (wrap64 ((Int.tmod (wrap64 (a (2 * i + 1) * b (2 * i + 1))) 3329) * gam i))) = a (2 * i) * b (2 * i) + a (2 * i + 1) * b (2 * i + 1) % 3329 * gam i := by
  have h1 := mul_bd (ha (2 * i)) (hb (2 * i))
  have h2 := mul_bd (mod_in (a (2 * i + 1) * b (2 * i + 1))) (gam_in i)
  rw [sq_mod (ha _) (hb _), wmul_in (ha _) (hb _), wmul_in (mod_in _) (gam_in i)]
  exact w64 (by omega) (by omega)
theorem mnE_bd (a b : Nat → Int) (ha : ∀ i, 0 ≤ a i ∧ a i ≤ 3328) (hb : ∀ i, 0 ≤ b i ∧ b i ≤ 3328) (i : Nat) : 0 ≤ a (2 * i) * b (2 * i) + a (2 * i + 1) * b (2 * i + 1) % 3329 * gam i ∧ a (2 * i) * b (2 * i) + a (2 * i + 1) * b (2 * i + 1) % 3329 * gam i ≤ 9223372036854775807 := by
  have h1 := mul_bd (ha (2 * i)) (hb (2 * i))
  have h2 := mul_bd (mod_in (a (2 * i + 1) * b (2 * i + 1))) (gam_in i)
  omega
theorem mnO_w (a b : Nat → Int) (ha : ∀ i, 0 ≤ a i ∧ a i ≤ 3328) (hb : ∀ i, 0 ≤ b i ∧ b i ≤ 3328) (i : Nat) :
    wrap64 ((wrap64 (a (2 * i) * b (2 * i + 1))) + (wrap64 (a (2 * i + 1) * b (2 * i)))) = a (2 * i) * b (2 * i + 1) + a (2 * i + 1) * b (2 * i) := by
  have h1 := mul_bd (ha (2 * i)) (hb (2 * i + 1))
  have h2 := mul_bd (ha (2 * i + 1)) (hb (2 * i))
  rw [wmul_in (ha _) (hb _), wmul_in (ha _) (hb _)]
  exact w64 (by omega) (by omega)
theorem mnO_bd (a b : Nat → Int) (ha : ∀ i, 0 ≤ a i ∧ a i ≤ 3328) (hb : ∀ i, 0 ≤ b i ∧ b i ≤ 3328) (i : Nat) : 0 ≤ a (2 * i) * b (2 * i + 1) + a (2 * i + 1) * b (2 * i) ∧ a (2 * i) * b (2 * i + 1) + a (2 * i + 1) * b (2 * i) ≤ 9223372036854775807 := by
  have h1 := mul_bd (ha (2 * i)) (hb (2 * i + 1))
  have h2 := mul_bd (ha (2 * i + 1)) (hb (2 * i))
  omega

theorem impl_MulNtt_ev (a b : Nat → Int) (ha : ∀ i, 0 ≤ a i ∧ a i ≤ 3328) (hb : ∀ i, 0 ≤ b i ∧ b i ≤ 3328) : Ev (fun k => impl_MulNtt.f k (vec a) (vec b)) (vec (mulNttV a b)) := by
  have core : Ev (fun k => impl_MulNtt.l0 k (vec a) (vec b) (List.replicate 256 0) 0) (vec (mulNttV a b)) := by
    rw [vec_replicate]
    have key := Ev.up (g := fun i k => impl_MulNtt.l0 k (vec a) (vec b) (vec fun n => if n < 2 * i then mulNttV a b n else 0) (i : Int)) (r := vec (mulNttV a b)) 128 ?_ ?_ 0 (by omega)
    · have e : (vec fun _ => (0 : Int)) = vec fun n => if n < 2 * 0 then mulNttV a b n else 0 := vec_congr fun n _ => by rw [if_neg (by omega)]
      rw [e]; exact key
    · intro i hi h
      obtain ⟨K1, h1⟩ := impl_Turn7_ev i hi 
      obtain ⟨K2, h2⟩ := impl_PowQ_ev 17 (by decide) (2 * t7s i 7 + 1) (pow17_ok i)
      obtain ⟨K3, h3⟩ := h
      refine ⟨K1 + K2 + K3 + 1, fun k hk => ?_⟩
      obtain ⟨m, rfl⟩ : ∃ m, k = m + 1 := ⟨k - 1, by omega⟩
      have e1 : impl_Turn7.f m (i : Int) = some ((t7s i 7 : Nat) : Int) := h1 m (by omega)
      have e2 : impl_PowQ.f m 17 ((2 * t7s i 7 + 1 : Nat) : Int) = some (pw 17 (2 * t7s i 7 + 1)) := h2 m (by omega)
      have e3 := h3 m (by omega)
      have c0 : 2 * i < 256 := by omega
      have c1 : 2 * i + 1 < 256 := by omega
      have b0 : i ≤ 100000 := by omega
      have b1 : 2 * i < 9223372036854775807 := by omega
      have b2 : i < 9223372036854775807 := by omega
      have be := mnE_bd a b ha hb i
      have bo := mnO_bd a b ha hb i
      have bem : -9223372036854775808 ≤ a (2 * i) * b (2 * i) + a (2 * i + 1) * b (2 * i + 1) % 3329 * gam i := Int.le_trans (by decide) be.1
      have bom : -9223372036854775808 ≤ a (2 * i) * b (2 * i + 1) + a (2 * i + 1) * b (2 * i) := Int.le_trans (by decide) bo.1
      have ee : (vec fun n => if n = 2 * i + 1 then mnO a b i else if n = 2 * i then mnE a b i else if n < 2 * i then mulNttV a b n else 0) = vec fun n => if n < 2 * (i + 1) then mulNttV a b n else 0 := by
        refine vec_congr fun n _ => ?_
        by_cases h1 : n = 2 * i + 1
        · subst h1; rw [if_pos rfl, if_pos (by omega), mulNttV_o]
        · rw [if_neg h1]
          by_cases h2 : n = 2 * i
          · subst h2; rw [if_pos rfl, if_pos (by omega), mulNttV_e]
          · rw [if_neg h2]
            by_cases h3 : n < 2 * i
            · rw [if_pos h3, if_pos (by omega)]
            · rw [if_neg h3, if_neg (by omega)]
      clear h1 h2 h3 hk be
      simp only [impl_MulNtt.l0]
      rw [if_pos (show (i : Int) < 128 from Int.ofNat_lt.mpr hi), e1, Option.bind_some, turn2, e2, Option.bind_some, wdbl i b0, w64s (2 * i) b1, if_pos (Int.natCast_nonneg _), vec_length, vec_length, vec_length, if_pos (Int.ofNat_lt.mpr c0), if_pos (Int.natCast_nonneg _), if_pos (Int.ofNat_lt.mpr c1), if_pos (Int.ofNat_lt.mpr c0), if_pos (Int.ofNat_lt.mpr c1),
        vec_rd _ _ c0, vec_rd _ _ c0, vec_rd _ _ c1, vec_rd _ _ c1]
      rw [show pw 17 (2 * t7s i 7 + 1) = gam i from rfl, mnE_w a b ha hb i, mnO_w a b ha hb i, modQ_eq _ bem (mnE_bd a b ha hb i).2, Option.bind_some, if_pos (Int.ofNat_lt.mpr c0), modQ_eq _ bom bo.2, Option.bind_some, if_pos (Int.ofNat_lt.mpr c1), Int.toNat_natCast, Int.toNat_natCast, vec_set, vec_set, w64s i b2]
      rw [show (a (2 * i) * b (2 * i) + a (2 * i + 1) * b (2 * i + 1) % 3329 * gam i) % 3329 = mnE a b i from rfl, show (a (2 * i) * b (2 * i + 1) + a (2 * i + 1) * b (2 * i)) % 3329 = mnO a b i from rfl, ee]
      exact e3
    · refine Ev.step (f := fun _ => some (vec fun n => if n < 2 * 128 then mulNttV a b n else 0)) (fun k => ?_) ?_
      · simp only [impl_MulNtt.l0]
        rw [if_neg (by decide)]
      · rw [vec_congr (g := mulNttV a b) fun n hn => if_pos hn]; exact Ev.now _
  unfold impl_MulNtt.f
  have oka := vec_ok (f := a) fun i _ => ha i
  have okb := vec_ok (f := b) fun i _ => hb i
  have la := vec_length a
  have lb := vec_length b
  refine Ev.bind (oka ▸ impl_PolyOk_ev (vec a) (by omega)) (Ev.pos rfl (Ev.bind (okb ▸ impl_PolyOk_ev (vec b) (by omega)) ?_))
  refine Ev.step (fun k => ?_) core
  simp only [impl_MulNtt.j0]
  rw [if_neg (by decide), if_pos (by decide)]

theorem spec_MulNtt_ev (a b : Nat → Int) (ha : ∀ i, 0 ≤ a i ∧ a i ≤ 3328) (hb : ∀ i, 0 ≤ b i ∧ b i ≤ 3328) : Ev (fun k => spec_MulNtt.f k (vec a) (vec b)) (vec (mulNttV a b)) := by
  have core : Ev (fun k => spec_MulNtt.l0 k (vec a) (vec b) [] 0) (vec (mulNttV a b)) := by
    refine Ev.up (g := fun i k => spec_MulNtt.l0 k (vec a) (vec b) ((vec (mulNttV a b)).take (2 * i)) (i : Int)) (r := vec (mulNttV a b)) 128 ?_ ?_ 0 (by omega)
    · intro i hi h
      obtain ⟨K1, h1⟩ := spec_Turn7_ev i hi 
      obtain ⟨K2, h2⟩ := spec_PowQ_ev 17 (by decide) (2 * t7s i 7 + 1) (pow17_ok i)
      obtain ⟨K3, h3⟩ := h
      refine ⟨K1 + K2 + K3 + 1, fun k hk => ?_⟩
      obtain ⟨m, rfl⟩ : ∃ m, k = m + 1 := ⟨k - 1, by omega⟩
      have e1 : spec_Turn7.f m (i : Int) = some ((t7s i 7 : Nat) : Int) := h1 m (by omega)
      have e2 : spec_PowQ.f m 17 ((2 * t7s i 7 + 1 : Nat) : Int) = some (pw 17 (2 * t7s i 7 + 1)) := h2 m (by omega)
      have e3 := h3 m (by omega)
      have c0 : 2 * i < 256 := by omega
      have c1 : 2 * i + 1 < 256 := by omega
      have b0 : i ≤ 100000 := by omega
      have b1 : 2 * i < 9223372036854775807 := by omega
      have b2 : i < 9223372036854775807 := by omega
      have be := mnE_bd a b ha hb i
      have bo := mnO_bd a b ha hb i
      have ln : (List.take (2 * i) (vec (mulNttV a b))).length + [mnE a b i, mnO a b i].length < 17592186044416 := by show _ + 2 < _; rw [List.length_take, vec_length]; omega
      have ee : List.take (2 * i) (vec (mulNttV a b)) ++ [mnE a b i, mnO a b i] = List.take (2 * (i + 1)) (vec (mulNttV a b)) := by
        have t1 := take_snoc (vec (mulNttV a b)) (2 * i) (by rw [vec_length]; exact c0)
        have t2 := take_snoc (vec (mulNttV a b)) (2 * i + 1) (by rw [vec_length]; exact c1)
        rw [vec_get, mulNttV_e] at t1
        rw [vec_get, mulNttV_o] at t2
        rw [show 2 * (i + 1) = 2 * i + 1 + 1 by omega, ← t2, ← t1, List.append_assoc]
        rfl
      clear h1 h2 h3 hk
      simp only [spec_MulNtt.l0]
      rw [if_pos (show (i : Int) < 128 from Int.ofNat_lt.mpr hi), e1, Option.bind_some, turn2, e2, Option.bind_some, wdbl i b0, w64s (2 * i) b1, if_pos (Int.natCast_nonneg _), vec_length, vec_length, if_pos (Int.ofNat_lt.mpr c1), if_pos (Int.ofNat_lt.mpr c1), if_pos (Int.natCast_nonneg _), if_pos (Int.ofNat_lt.mpr c0), if_pos (Int.ofNat_lt.mpr c0),
        vec_rd _ _ c0, vec_rd _ _ c0, vec_rd _ _ c1, vec_rd _ _ c1, Option.bind_some]
      rw [show pw 17 (2 * t7s i 7 + 1) = gam i from rfl, mnE_w a b ha hb i, mnO_w a b ha hb i, Int.tmod_eq_emod_of_nonneg be.1, Int.tmod_eq_emod_of_nonneg bo.1, w64s i b2]
      rw [show (a (2 * i) * b (2 * i) + a (2 * i + 1) * b (2 * i + 1) % 3329 * gam i) % 3329 = mnE a b i from rfl, show (a (2 * i) * b (2 * i + 1) + a (2 * i + 1) * b (2 * i)) % 3329 = mnO a b i from rfl]
      rw [if_pos ln, ee]
      exact e3
    · refine Ev.step (f := fun _ => some (List.take (2 * 128) (vec (mulNttV a b)))) (fun k => ?_) ?_
      · simp only [spec_MulNtt.l0]
        rw [if_neg (by decide)]
      · rw [List.take_of_length_le (by rw [vec_length]; decide)]; exact Ev.now _
  unfold spec_MulNtt.f
  have oka := vec_ok (f := a) fun i _ => ha i
  have okb := vec_ok (f := b) fun i _ => hb i
  simp only [Option.bind_some]
  refine Ev.bind (oka ▸ spec_PolyOk_ev (vec a)) (Ev.pos rfl (Ev.bind (okb ▸ spec_PolyOk_ev (vec b)) ?_))
  refine Ev.step (fun k => ?_) core
  simp only [spec_MulNtt.j0]
  rw [if_neg (by decide)]

/-! a layer, place by place -/
theorem blk_le (s c m : Nat) (h : c < m) : 2 * s * c + 2 * s ≤ 2 * s * m := by rw [← Nat.mul_succ]; exact Nat.mul_le_mul_left _ h
theorem lay_hi {s m : Nat} {f : Nat → Int} (t n : Nat) (h : 2 * s * t ≤ n) : lay s m t f n = f n := by
  induction t with
  | zero => rfl
  | succ t ih =>
    have e : 2 * s * (t + 1) = 2 * s * t + 2 * s := Nat.mul_succ _ _
    simp only [lay]
    unfold bfp
    rw [if_neg (by omega), if_neg (by omega)]
    exact ih (by omega)
theorem lay_lo {s m : Nat} {f : Nat → Int} (t c r : Nat) (hc : c < t) (hr : r < s) :
    lay s m t f (2 * s * c + r) = (f (2 * s * c + r) + zed (m + c) * f (2 * s * c + r + s)) % 3329 ∧
    lay s m t f (2 * s * c + r + s) = (f (2 * s * c + r) - zed (m + c) * f (2 * s * c + r + s)) % 3329 := by
  induction t with
  | zero => exact absurd hc (Nat.not_lt_zero _)
  | succ t ih =>
    simp only [lay]
    by_cases e : c = t
    · subst e
      unfold bfp
      rw [if_pos (by omega), if_neg (by omega), if_pos (by omega), show 2 * s * c + r + s - s = 2 * s * c + r by omega, lay_hi c _ (by omega), lay_hi c _ (by omega)]
      exact ⟨rfl, rfl⟩
    · have hlt : c < t := by omega
      have hb := blk_le s c t hlt
      have h := ih hlt
      unfold bfp
      rw [if_neg (by omega), if_neg (by omega), if_neg (by omega), if_neg (by omega)]
      exact h
theorem layI_hi {s m : Nat} {f : Nat → Int} (t n : Nat) (h : 2 * s * t ≤ n) : layI s m t f n = f n := by
  induction t with
  | zero => rfl
  | succ t ih =>
    have e : 2 * s * (t + 1) = 2 * s * t + 2 * s := Nat.mul_succ _ _
    simp only [layI]
    unfold bfi
    rw [if_neg (by omega), if_neg (by omega)]
    exact ih (by omega)
theorem layI_lo {s m : Nat} {f : Nat → Int} (t c r : Nat) (hc : c < t) (hr : r < s) :
    layI s m t f (2 * s * c + r) = (f (2 * s * c + r) + f (2 * s * c + r + s)) % 3329 ∧
    layI s m t f (2 * s * c + r + s) = (zed (2 * m - 1 - c) * (f (2 * s * c + r + s) - f (2 * s * c + r))) % 3329 := by
  induction t with
  | zero => exact absurd hc (Nat.not_lt_zero _)
  | succ t ih =>
    simp only [layI]
    by_cases e : c = t
    · subst e
      unfold bfi
      rw [if_pos (by omega), if_neg (by omega), if_pos (by omega), show 2 * s * c + r + s - s = 2 * s * c + r by omega, layI_hi c _ (by omega), layI_hi c _ (by omega)]
      exact ⟨rfl, rfl⟩
    · have hlt : c < t := by omega
      have hb := blk_le s c t hlt
      have h := ih hlt
      unfold bfi
      rw [if_neg (by omega), if_neg (by omega), if_neg (by omega), if_neg (by omega)]
      exact h
/-- Every place below 2sm is of a block, in its lower or its upper half. -/
theorem place_of {s m n : Nat} (hn : n < 2 * s * m) : ∃ c r, c < m ∧ r < s ∧ (n = 2 * s * c + r ∨ n = 2 * s * c + r + s) := by
  have hs : 0 < 2 * s := by
    rcases Nat.eq_zero_or_pos (2 * s) with h | h
    · rw [h, Nat.zero_mul] at hn; omega
    · exact h
  have h1 : n / (2 * s) < m := Nat.div_lt_of_lt_mul hn
  have h2 := Nat.mod_lt n hs
  have h3 := Nat.div_add_mod n (2 * s)
  by_cases h : n % (2 * s) < s
  · exact ⟨_, _, h1, h, .inl h3.symm⟩
  · exact ⟨_, n % (2 * s) - s, h1, by omega, .inr (by omega)⟩

/-! sums of transforms -/
theorem bfp_lin {z : Int} {s st j : Nat} {f g h : Nat → Int} (H : ∀ n, EqQ (f n) (g n + h n)) (n : Nat) : EqQ (bfp z s st j f n) (bfp z s st j g n + bfp z s st j h n) := by
  have e1 : ∀ a b c d : Int, a + b + z * (c + d) = (a + z * c) + (b + z * d) := fun a b c d => by rw [Int.mul_add]; omega
  have e2 : ∀ a b c d : Int, a + b - z * (c + d) = (a - z * c) + (b - z * d) := fun a b c d => by rw [Int.mul_add]; omega
  unfold bfp
  split
  · refine (EqQ.mod _).trans (EqQ.trans ?_ (EqQ.add (EqQ.mod _).symm (EqQ.mod _).symm))
    rw [← e1]
    exact EqQ.add (H n) (EqQ.mul (EqQ.refl z) (H (n + s)))
  · split
    · refine (EqQ.mod _).trans (EqQ.trans ?_ (EqQ.add (EqQ.mod _).symm (EqQ.mod _).symm))
      rw [← e2]
      exact EqQ.sub (H (n - s)) (EqQ.mul (EqQ.refl z) (H n))
    · exact H n
theorem lay_lin {s m : Nat} {f g h : Nat → Int} (H : ∀ n, EqQ (f n) (g n + h n)) (t : Nat) : ∀ n, EqQ (lay s m t f n) (lay s m t g n + lay s m t h n) := by
  induction t with
  | zero => exact H
  | succ t ih => exact bfp_lin ih
theorem nttV_lin {f g h : Nat → Int} (H : ∀ n, EqQ (f n) (g n + h n)) : ∀ n, EqQ (nttV f n) (nttV g n + nttV h n) :=
  lay_lin (lay_lin (lay_lin (lay_lin (lay_lin (lay_lin (lay_lin H 1) 2) 4) 8) 16) 32) 64

/-! the closed form -/
/-- The number of a block: its square root's sign and power. -/
def gm (k : Nat) : Int := if k % 2 = 0 then zed (k / 2) else -zed (k / 2)
theorem zed_sq (k : Nat) (h0 : 1 ≤ k) (hk : k < 128) : EqQ (zed k * zed k) (gm k) := by
  have key : ∀ k : Fin 128, 1 ≤ k.val → (zed k.val * zed k.val) % 3329 = gm k.val % 3329 := by decide +kernel
  exact key ⟨k, hk⟩ h0
theorem gm_gam (i : Nat) (hi : i < 128) : EqQ (gm (128 + i)) (gam i) := by
  have key : ∀ k : Fin 128, gm (128 + k.val) % 3329 = gam k.val % 3329 := by decide +kernel
  exact key ⟨i, hi⟩
theorem zed_back (k : Nat) (h0 : 1 ≤ k) (hk : k < 128) (m c : Nat) (hm : m = 1 ∨ m = 2 ∨ m = 4 ∨ m = 8 ∨ m = 16 ∨ m = 32 ∨ m = 64) (hc : c < m) (e : k = m + c) : EqQ (zed (2 * m - 1 - c) * zed k) (-1) := by
  subst e
  have k1 : ∀ c : Fin 1, (zed (2 * 1 - 1 - c.val) * zed (1 + c.val)) % 3329 = (-1) % 3329 := by decide +kernel
  have k2 : ∀ c : Fin 2, (zed (2 * 2 - 1 - c.val) * zed (2 + c.val)) % 3329 = (-1) % 3329 := by decide +kernel
  have k4 : ∀ c : Fin 4, (zed (2 * 4 - 1 - c.val) * zed (4 + c.val)) % 3329 = (-1) % 3329 := by decide +kernel
  have k8 : ∀ c : Fin 8, (zed (2 * 8 - 1 - c.val) * zed (8 + c.val)) % 3329 = (-1) % 3329 := by decide +kernel
  have k16 : ∀ c : Fin 16, (zed (2 * 16 - 1 - c.val) * zed (16 + c.val)) % 3329 = (-1) % 3329 := by decide +kernel
  have k32 : ∀ c : Fin 32, (zed (2 * 32 - 1 - c.val) * zed (32 + c.val)) % 3329 = (-1) % 3329 := by decide +kernel
  have k64 : ∀ c : Fin 64, (zed (2 * 64 - 1 - c.val) * zed (64 + c.val)) % 3329 = (-1) % 3329 := by decide +kernel
  rcases hm with rfl | rfl | rfl | rfl | rfl | rfl | rfl
  · exact k1 ⟨c, hc⟩
  · exact k2 ⟨c, hc⟩
  · exact k4 ⟨c, hc⟩
  · exact k8 ⟨c, hc⟩
  · exact k16 ⟨c, hc⟩
  · exact k32 ⟨c, hc⟩
  · exact k64 ⟨c, hc⟩
theorem gam_half (i : Nat) : EqQ (gam i ^ 128) (-1) := by
  have e : EqQ (gam i ^ 128) ((17 ^ 128) ^ (2 * t7s i 7 + 1)) := by
    refine (EqQ.pow (EqQ.mod (17 ^ (2 * t7s i 7 + 1))) 128).trans (EqQ.of ?_)
    rw [← Int.pow_mul, ← Int.pow_mul, Nat.mul_comm]
  have e2 : EqQ ((17 : Int) ^ 128) (-1) := by show ((17 : Int) ^ 128) % 3329 = (-1) % 3329; decide +kernel
  refine e.trans ((EqQ.pow e2 _).trans (EqQ.of ?_))
  rw [Int.pow_succ, Int.pow_mul, show ((-1 : Int) ^ 2) = 1 from rfl, Int.one_pow, Int.one_mul]

/-- What a block's number answers: each m-th number from r on, by powers. -/
def cf (f : Nat → Int) (L m r : Nat) (g : Int) : Int := sumN m fun j => f (L * j + r) * g ^ j
theorem cf_step (f : Nat → Int) (s m r : Nat) (g w : Int) (hw : EqQ (w * w) g) : EqQ (cf f (2 * s) m r g + w * cf f (2 * s) m (r + s) g) (cf f s (2 * m) r w) := by
  unfold cf
  rw [sumN_two, ← sumN_mul]
  refine EqQ.add (sumN_eqQ fun j _ => ?_) (sumN_eqQ fun j _ => ?_)
  · refine EqQ.trans (EqQ.mul (EqQ.refl _) (EqQ.pow hw.symm j)) (EqQ.of ?_)
    rw [show s * (2 * j) + r = 2 * s * j + r by rw [Nat.mul_comm 2 s, Nat.mul_assoc], Int.pow_mul, show w ^ 2 = w * w by rw [Int.pow_succ, Int.pow_succ, Int.pow_zero, Int.one_mul]]
  · refine EqQ.trans (EqQ.mul (EqQ.refl w) (EqQ.mul (EqQ.refl _) (EqQ.pow hw.symm j))) (EqQ.of ?_)
    rw [show s * (2 * j + 1) + r = 2 * s * j + (r + s) by rw [Nat.mul_add, Nat.mul_comm 2 s, Nat.mul_assoc]; omega, Int.pow_succ, Int.pow_mul, show w ^ 2 = w * w by rw [Int.pow_succ, Int.pow_succ, Int.pow_zero, Int.one_mul]]
    rw [Int.mul_comm, Int.mul_assoc]
def Closed (f g : Nat → Int) (L m : Nat) : Prop := ∀ c r, c < m → r < L → EqQ (g (L * c + r)) (cf f L m r (gm (m + c)))
theorem closed_lay {f g : Nat → Int} {s m : Nat} (h : Closed f g (2 * s) m) (hm : 1 ≤ m) (hm2 : 2 * m ≤ 128) : Closed f (lay s m m g) s (2 * m) := by
  intro c' r hc hr
  have hc2 : c' / 2 < m := by omega
  have hz := zed_sq (m + c' / 2) (by omega) (by omega)
  have h0 := h (c' / 2) r hc2 (by omega)
  have h1 := h (c' / 2) (r + s) hc2 (by omega)
  have hl := lay_lo (s := s) (m := m) (f := g) m (c' / 2) r hc2 hr
  rw [← Nat.add_assoc] at h1
  by_cases hb : c' % 2 = 0
  · have e : s * c' = 2 * s * (c' / 2) := by
      have : c' = 2 * (c' / 2) := by omega
      rw [Nat.mul_comm 2 s, Nat.mul_assoc, ← this]
    have eg : gm (2 * m + c') = zed (m + c' / 2) := by
      unfold gm; rw [if_pos (by omega), show (2 * m + c') / 2 = m + c' / 2 by omega]
    rw [e, hl.1, eg]
    refine (EqQ.mod _).trans (EqQ.trans ?_ (cf_step f s m r _ _ hz))
    exact EqQ.add h0 (EqQ.mul (EqQ.refl _) h1)
  · have e : s * c' + r = 2 * s * (c' / 2) + r + s := by
      have : c' = 2 * (c' / 2) + 1 := by omega
      have e2 : s * c' = s * (2 * (c' / 2)) + s := by rw [← Nat.mul_succ, Nat.succ_eq_add_one, ← this]
      rw [e2, Nat.mul_comm 2 s, Nat.mul_assoc]; omega
    have eg : gm (2 * m + c') = -zed (m + c' / 2) := by
      unfold gm; rw [if_neg (by omega), show (2 * m + c') / 2 = m + c' / 2 by omega]
    have hz' : EqQ (-zed (m + c' / 2) * -zed (m + c' / 2)) (gm (m + c' / 2)) := by rw [Int.neg_mul_neg]; exact hz
    rw [e, hl.2, eg]
    refine (EqQ.mod _).trans (EqQ.trans ?_ (cf_step f s m r _ _ hz'))
    rw [Int.neg_mul, ← Int.sub_eq_add_neg]
    exact EqQ.sub h0 (EqQ.mul (EqQ.refl _) h1)
theorem closed_0 (f : Nat → Int) : Closed f f 256 1 := by
  intro c r hc hr
  obtain rfl : c = 0 := by omega
  refine EqQ.of ?_
  unfold cf
  simp only [sumN]
  rw [Int.pow_zero, Int.mul_one, Int.zero_add]
theorem closed_ntt (f : Nat → Int) : Closed f (nttV f) 2 128 := by
  have h1 := closed_lay (s := 128) (m := 1) (closed_0 f) (by decide) (by decide)
  have h2 := closed_lay (s := 64) (m := 2) h1 (by decide) (by decide)
  have h3 := closed_lay (s := 32) (m := 4) h2 (by decide) (by decide)
  have h4 := closed_lay (s := 16) (m := 8) h3 (by decide) (by decide)
  have h5 := closed_lay (s := 8) (m := 16) h4 (by decide) (by decide)
  have h6 := closed_lay (s := 4) (m := 32) h5 (by decide) (by decide)
  exact closed_lay (s := 2) (m := 64) h6 (by decide) (by decide)
/-- The numbers 2i and 2i+1 of a transform: the even numbers and the odd ones, by powers of the i-th. -/
def E0 (g : Int) (f : Nat → Int) : Int := sumN 128 fun j => f (2 * j) * g ^ j
def E1 (g : Int) (f : Nat → Int) : Int := sumN 128 fun j => f (2 * j + 1) * g ^ j
theorem ntt_e (f : Nat → Int) (i : Nat) (hi : i < 128) : EqQ (nttV f (2 * i)) (E0 (gam i) f) := by
  refine (closed_ntt f i 0 hi (by decide)).trans ?_
  exact sumN_eqQ fun j _ => EqQ.mul (EqQ.refl _) (EqQ.pow (gm_gam i hi) j)
theorem ntt_o (f : Nat → Int) (i : Nat) (hi : i < 128) : EqQ (nttV f (2 * i + 1)) (E1 (gam i) f) := by
  refine (closed_ntt f i 1 hi (by decide)).trans ?_
  exact sumN_eqQ fun j _ => EqQ.mul (EqQ.refl _) (EqQ.pow (gm_gam i hi) j)

/-! there and back -/
theorem two_z {z y a b : Int} (h : EqQ (z * y) (-1)) : EqQ (z * ((a - y * b) % 3329 - (a + y * b) % 3329)) (2 * b) := by
  refine EqQ.trans (EqQ.mul (EqQ.refl z) (EqQ.sub (EqQ.mod _) (EqQ.mod _))) ?_
  rw [show a - y * b - (a + y * b) = y * (-(2 * b)) by rw [Int.mul_neg, Int.mul_left_comm]; omega, ← Int.mul_assoc]
  refine (EqQ.mul h (EqQ.refl _)).trans (EqQ.of ?_)
  omega
theorem back_of {s m : Nat} (hm : m = 1 ∨ m = 2 ∨ m = 4 ∨ m = 8 ∨ m = 16 ∨ m = 32 ∨ m = 64) (hs : 2 * s * m = 256) (f g : Nat → Int) (u : Int) (H : ∀ n, n < 256 → EqQ (g n) (u * lay s m m f n)) :
    ∀ n, n < 256 → EqQ (layI s m m g n) (2 * u * f n) := by
  intro n hn
  obtain ⟨c, r, hc, hr, e⟩ := place_of (s := s) (m := m) (n := n) (by omega)
  have hb := blk_le s c m hc
  have hI := layI_lo (s := s) (m := m) (f := g) m c r hc hr
  have hL := lay_lo (s := s) (m := m) (f := f) m c r hc hr
  have g0 := H (2 * s * c + r) (by omega)
  have g1 := H (2 * s * c + r + s) (by omega)
  have hz := zed_back (m + c) (by omega) (by omega) m c hm hc rfl
  rw [hL.1] at g0
  rw [hL.2] at g1
  rcases e with rfl | rfl
  · rw [hI.1]
    refine (EqQ.mod _).trans ((EqQ.add g0 g1).trans ?_)
    rw [← Int.mul_add]
    refine (EqQ.mul (EqQ.refl u) (EqQ.add (EqQ.mod _) (EqQ.mod _))).trans (EqQ.of ?_)
    rw [show f (2 * s * c + r) + zed (m + c) * f (2 * s * c + r + s) + (f (2 * s * c + r) - zed (m + c) * f (2 * s * c + r + s)) = 2 * f (2 * s * c + r) by omega, ← Int.mul_assoc, Int.mul_comm u 2]
  · rw [hI.2]
    refine (EqQ.mod _).trans ((EqQ.mul (EqQ.refl _) (EqQ.sub g1 g0)).trans ?_)
    rw [← Int.mul_sub, Int.mul_left_comm]
    refine (EqQ.mul (EqQ.refl u) (two_z hz)).trans (EqQ.of ?_)
    rw [← Int.mul_assoc, Int.mul_comm u 2]
theorem forth_of {s m : Nat} (hm : m = 1 ∨ m = 2 ∨ m = 4 ∨ m = 8 ∨ m = 16 ∨ m = 32 ∨ m = 64) (hs : 2 * s * m = 256) (f g : Nat → Int) (u : Int) (H : ∀ n, n < 256 → EqQ (g n) (u * layI s m m f n)) :
    ∀ n, n < 256 → EqQ (lay s m m g n) (2 * u * f n) := by
  intro n hn
  obtain ⟨c, r, hc, hr, e⟩ := place_of (s := s) (m := m) (n := n) (by omega)
  have hb := blk_le s c m hc
  have hI := layI_lo (s := s) (m := m) (f := f) m c r hc hr
  have hL := lay_lo (s := s) (m := m) (f := g) m c r hc hr
  have g0 := H (2 * s * c + r) (by omega)
  have g1 := H (2 * s * c + r + s) (by omega)
  have hz := zed_back (m + c) (by omega) (by omega) m c hm hc rfl
  rw [hI.1] at g0
  rw [hI.2] at g1
  have gz : EqQ (zed (m + c) * g (2 * s * c + r + s)) (u * (f (2 * s * c + r) - f (2 * s * c + r + s))) := by
    refine (EqQ.mul (EqQ.refl _) g1).trans ?_
    rw [Int.mul_left_comm]
    refine EqQ.mul (EqQ.refl u) ((EqQ.mul (EqQ.refl _) (EqQ.mod _)).trans ?_)
    rw [← Int.mul_assoc, Int.mul_comm (zed (m + c))]
    refine (EqQ.mul hz (EqQ.refl _)).trans (EqQ.of ?_)
    omega
  have g0' : EqQ (g (2 * s * c + r)) (u * (f (2 * s * c + r) + f (2 * s * c + r + s))) := g0.trans (EqQ.mul (EqQ.refl u) (EqQ.mod _))
  rcases e with rfl | rfl
  · rw [hL.1]
    refine (EqQ.mod _).trans ((EqQ.add g0' gz).trans (EqQ.of ?_))
    rw [← Int.mul_add, show f (2 * s * c + r) + f (2 * s * c + r + s) + (f (2 * s * c + r) - f (2 * s * c + r + s)) = 2 * f (2 * s * c + r) by omega, ← Int.mul_assoc, Int.mul_comm u 2]
  · rw [hL.2]
    refine (EqQ.mod _).trans ((EqQ.sub g0' gz).trans (EqQ.of ?_))
    rw [← Int.mul_sub, show f (2 * s * c + r) + f (2 * s * c + r + s) - (f (2 * s * c + r) - f (2 * s * c + r + s)) = 2 * f (2 * s * c + r + s) by omega, ← Int.mul_assoc, Int.mul_comm u 2]
theorem inv_ntt {f : Nat → Int} (hf : ∀ i, 0 ≤ f i ∧ f i ≤ 3328) (n : Nat) (hn : n < 256) : invV (nttV f) n = f n := by
  have h1 := back_of (s := 2) (m := 64) (by decide) (by decide) _ (nttV f) 1 (fun n _ => EqQ.of (by rw [Int.one_mul]; rfl))
  have h2 := back_of (s := 4) (m := 32) (by decide) (by decide) _ _ _ h1
  have h3 := back_of (s := 8) (m := 16) (by decide) (by decide) _ _ _ h2
  have h4 := back_of (s := 16) (m := 8) (by decide) (by decide) _ _ _ h3
  have h5 := back_of (s := 32) (m := 4) (by decide) (by decide) _ _ _ h4
  have h6 := back_of (s := 64) (m := 2) (by decide) (by decide) _ _ _ h5
  have h7 := back_of (s := 128) (m := 1) (by decide) (by decide) f _ _ h6 n hn
  refine EqQ.eq ?_ (mod_in _).1 (mod_in _).2 (hf n).1 (hf n).2
  refine (EqQ.mod _).trans ((EqQ.mul h7 (EqQ.refl 3303)).trans ?_)
  unfold EqQ
  omega
theorem ntt_inv {f : Nat → Int} (hf : ∀ i, 0 ≤ f i ∧ f i ≤ 3328) (n : Nat) (hn : n < 256) : nttV (invV f) n = f n := by
  have h1 := forth_of (s := 128) (m := 1) (by decide) (by decide) (layI 64 2 2 (layI 32 4 4 (layI 16 8 8 (layI 8 16 16 (layI 4 32 32 (layI 2 64 64 f)))))) (invV f) 3303 (fun n _ => (EqQ.mod _).trans (EqQ.of (Int.mul_comm _ _)))
  have h2 := forth_of (s := 64) (m := 2) (by decide) (by decide) (layI 32 4 4 (layI 16 8 8 (layI 8 16 16 (layI 4 32 32 (layI 2 64 64 f))))) _ _ h1
  have h3 := forth_of (s := 32) (m := 4) (by decide) (by decide) (layI 16 8 8 (layI 8 16 16 (layI 4 32 32 (layI 2 64 64 f)))) _ _ h2
  have h4 := forth_of (s := 16) (m := 8) (by decide) (by decide) (layI 8 16 16 (layI 4 32 32 (layI 2 64 64 f))) _ _ h3
  have h5 := forth_of (s := 8) (m := 16) (by decide) (by decide) (layI 4 32 32 (layI 2 64 64 f)) _ _ h4
  have h6 := forth_of (s := 4) (m := 32) (by decide) (by decide) (layI 2 64 64 f) _ _ h5
  have h7 := forth_of (s := 2) (m := 64) (by decide) (by decide) f _ _ h6 n hn
  refine EqQ.eq ?_ (nttV_in (fun i => mod_in _) n).1 (nttV_in (fun i => mod_in _) n).2 (hf n).1 (hf n).2
  refine EqQ.trans h7 ?_
  unfold EqQ
  omega
theorem invV_in (f : Nat → Int) (n : Nat) : 0 ≤ invV f n ∧ invV f n ≤ 3328 := mod_in _

/-- b moved by i places, around. -/
def sh (i : Nat) (b : Nat → Int) (n : Nat) : Int := if i ≤ n then b (n - i) else -b (256 + n - i)
theorem termM_sh (a b : Nat → Int) (i n : Nat) : termM a b i n = a i * sh i b n := by
  unfold termM sh
  split
  · rfl
  · rw [Int.mul_neg]
theorem sh_0 (b : Nat → Int) : sh 0 b = b := by
  funext n
  unfold sh
  rw [if_pos (Nat.zero_le _)]
  rfl
theorem sh_up (i : Nat) (b : Nat → Int) (hi : i < 256) (n : Nat) : sh (i + 1) b n = if n = 0 then -sh i b 255 else sh i b (n - 1) := by
  unfold sh
  by_cases h : n = 0
  · subst h
    rw [if_neg (by omega), if_pos rfl, if_pos (by omega), show 256 + 0 - (i + 1) = 255 - i by omega]
  · rw [if_neg h]
    by_cases h2 : i + 1 ≤ n
    · rw [if_pos h2, if_pos (by omega), show n - (i + 1) = n - 1 - i by omega]
    · rw [if_neg h2, if_neg (by omega), show 256 + n - (i + 1) = 256 + (n - 1) - i by omega]
theorem E1_up (g : Int) (i : Nat) (b : Nat → Int) (hi : i < 256) : E1 g (sh (i + 1) b) = E0 g (sh i b) := by
  unfold E1 E0
  refine sumN_congr fun j _ => ?_
  rw [sh_up i b hi, if_neg (by omega), show 2 * j + 1 - 1 = 2 * j by omega]
theorem E0_front (g : Int) (f : Nat → Int) : E0 g f = f 0 * g ^ 0 + sumN 127 fun j => f (2 * (j + 1)) * g ^ (j + 1) := sumN_front 127 fun j => f (2 * j) * g ^ j
theorem E1_last (g : Int) (f : Nat → Int) : E1 g f = (sumN 127 fun j => f (2 * j + 1) * g ^ j) + f 255 * g ^ 127 := rfl
theorem E0_up (g : Int) (hg : EqQ (g ^ 128) (-1)) (i : Nat) (b : Nat → Int) (hi : i < 256) : EqQ (E0 g (sh (i + 1) b)) (g * E1 g (sh i b)) := by
  have e1 : E0 g (sh (i + 1) b) = -sh i b 255 + sumN 127 fun j => sh i b (2 * j + 1) * g ^ (j + 1) := by
    rw [E0_front, sh_up i b hi 0, if_pos rfl, Int.pow_zero, Int.mul_one]
    rw [sumN_congr (g := fun j => sh i b (2 * j + 1) * g ^ (j + 1)) fun j _ => by rw [sh_up i b hi, if_neg (by omega), show 2 * (j + 1) - 1 = 2 * j + 1 by omega]]
  have e2 : g * E1 g (sh i b) = (sumN 127 fun j => sh i b (2 * j + 1) * g ^ (j + 1)) + sh i b 255 * g ^ 128 := by
    rw [E1_last, Int.mul_add, ← sumN_mul]
    rw [sumN_congr (g := fun j => sh i b (2 * j + 1) * g ^ (j + 1)) fun j _ => by rw [Int.pow_succ, Int.mul_left_comm, Int.mul_comm g]]
    rw [show g * (sh i b 255 * g ^ 127) = sh i b 255 * g ^ 128 by rw [Int.pow_succ g 127, Int.mul_left_comm, Int.mul_comm g]]
  rw [e1, e2, Int.add_comm]
  refine EqQ.add (EqQ.refl _) ?_
  refine EqQ.trans (EqQ.of ?_) (EqQ.mul (EqQ.refl _) hg.symm)
  omega
theorem E_sh (g : Int) (hg : EqQ (g ^ 128) (-1)) (b : Nat → Int) (k : Nat) (hk : k < 128) :
    (EqQ (E0 g (sh (2 * k) b)) (g ^ k * E0 g b) ∧ EqQ (E1 g (sh (2 * k) b)) (g ^ k * E1 g b)) ∧
    (EqQ (E0 g (sh (2 * k + 1) b)) (g ^ k * (g * E1 g b)) ∧ EqQ (E1 g (sh (2 * k + 1) b)) (g ^ k * E0 g b)) := by
  have odd : ∀ k, k < 128 → (EqQ (E0 g (sh (2 * k) b)) (g ^ k * E0 g b) ∧ EqQ (E1 g (sh (2 * k) b)) (g ^ k * E1 g b)) → (EqQ (E0 g (sh (2 * k + 1) b)) (g ^ k * (g * E1 g b)) ∧ EqQ (E1 g (sh (2 * k + 1) b)) (g ^ k * E0 g b)) := by
    intro k hk h
    refine ⟨?_, ?_⟩
    · refine (E0_up g hg (2 * k) b (by omega)).trans ((EqQ.mul (EqQ.refl g) h.2).trans (EqQ.of ?_))
      rw [Int.mul_left_comm]
    · rw [E1_up g (2 * k) b (by omega)]
      exact h.1
  induction k with
  | zero =>
    have h0 : (EqQ (E0 g (sh (2 * 0) b)) (g ^ 0 * E0 g b) ∧ EqQ (E1 g (sh (2 * 0) b)) (g ^ 0 * E1 g b)) := by
      rw [show 2 * 0 = 0 from rfl, sh_0, Int.pow_zero, Int.one_mul, Int.one_mul]
      exact ⟨EqQ.refl _, EqQ.refl _⟩
    exact ⟨h0, odd 0 hk h0⟩
  | succ k ih =>
    obtain ⟨h1, h2⟩ := ih (by omega)
    have h3 : (EqQ (E0 g (sh (2 * (k + 1)) b)) (g ^ (k + 1) * E0 g b) ∧ EqQ (E1 g (sh (2 * (k + 1)) b)) (g ^ (k + 1) * E1 g b)) := by
      rw [show 2 * (k + 1) = 2 * k + 1 + 1 by omega]
      refine ⟨?_, ?_⟩
      · refine (E0_up g hg (2 * k + 1) b (by omega)).trans ((EqQ.mul (EqQ.refl g) h2.2).trans (EqQ.of ?_))
        rw [Int.pow_succ, ← Int.mul_assoc, Int.mul_comm g]
      · rw [E1_up g (2 * k + 1) b (by omega)]
        refine h2.1.trans (EqQ.of ?_)
        rw [Int.pow_succ, ← Int.mul_assoc]
    exact ⟨h3, odd (k + 1) hk h3⟩
theorem E_mulV (g : Int) (hg : EqQ (g ^ 128) (-1)) (a b : Nat → Int) :
    EqQ (E0 g (mulV a b)) (E0 g a * E0 g b + g * (E1 g a * E1 g b)) ∧ EqQ (E1 g (mulV a b)) (E0 g a * E1 g b + E1 g a * E0 g b) := by
  have swap : ∀ d : Nat, EqQ (sumN 128 fun j => mulV a b (2 * j + d) * g ^ j) (sumN 256 fun i => a i * sumN 128 fun j => sh i b (2 * j + d) * g ^ j) := by
    intro d
    refine EqQ.trans (sumN_eqQ fun j _ => EqQ.mul (EqQ.mod _) (EqQ.refl _)) (EqQ.of ?_)
    rw [sumN_congr (g := fun j => sumN 256 fun i => a i * (sh i b (2 * j + d) * g ^ j)) fun j _ => ?_]
    · rw [sumN_comm]
      refine sumN_congr fun i _ => ?_
      rw [sumN_mul]
    · rw [← sumN_mul_right]
      refine sumN_congr fun i _ => ?_
      rw [termM_sh, Int.mul_assoc]
  have s0 := swap 0
  have s1 := swap 1
  have f0 : EqQ (E0 g (mulV a b)) (sumN (2 * 128) fun i => a i * E0 g (sh i b)) := s0
  have f1 : EqQ (E1 g (mulV a b)) (sumN (2 * 128) fun i => a i * E1 g (sh i b)) := s1
  rw [sumN_two] at f0 f1
  refine ⟨f0.trans ?_, f1.trans ?_⟩
  · refine EqQ.add ?_ ?_
    · refine EqQ.trans (sumN_eqQ fun j hj => EqQ.mul (EqQ.refl _) (E_sh g hg b j hj).1.1) (EqQ.of ?_)
      rw [show E0 g a * E0 g b = sumN 128 fun j => a (2 * j) * g ^ j * E0 g b from (sumN_mul_right _ _ _).symm]
      exact sumN_congr fun j _ => (Int.mul_assoc _ _ _).symm
    · refine EqQ.trans (sumN_eqQ fun j hj => EqQ.mul (EqQ.refl _) (E_sh g hg b j hj).2.1) (EqQ.of ?_)
      rw [show g * (E1 g a * E1 g b) = E1 g a * (g * E1 g b) by rw [Int.mul_left_comm], show E1 g a * (g * E1 g b) = sumN 128 fun j => a (2 * j + 1) * g ^ j * (g * E1 g b) from (sumN_mul_right _ _ _).symm]
      exact sumN_congr fun j _ => (Int.mul_assoc _ _ _).symm
  · refine EqQ.add ?_ ?_
    · refine EqQ.trans (sumN_eqQ fun j hj => EqQ.mul (EqQ.refl _) (E_sh g hg b j hj).1.2) (EqQ.of ?_)
      rw [show E0 g a * E1 g b = sumN 128 fun j => a (2 * j) * g ^ j * E1 g b from (sumN_mul_right _ _ _).symm]
      exact sumN_congr fun j _ => (Int.mul_assoc _ _ _).symm
    · refine EqQ.trans (sumN_eqQ fun j hj => EqQ.mul (EqQ.refl _) (E_sh g hg b j hj).2.2) (EqQ.of ?_)
      rw [show E1 g a * E0 g b = sumN 128 fun j => a (2 * j + 1) * g ^ j * E0 g b from (sumN_mul_right _ _ _).symm]
      exact sumN_congr fun j _ => (Int.mul_assoc _ _ _).symm
/-- The product of two transforms is the transform of the product. -/
theorem ntt_mul {a b : Nat → Int} (n : Nat) (hn : n < 256) : mulNttV (nttV a) (nttV b) n = nttV (mulV a b) n := by
  have hi : n / 2 < 128 := by omega
  have hg := gam_half (n / 2)
  obtain ⟨m0, m1⟩ := E_mulV (gam (n / 2)) hg a b
  have a0 := ntt_e a (n / 2) hi
  have a1 := ntt_o a (n / 2) hi
  have b0 := ntt_e b (n / 2) hi
  have b1 := ntt_o b (n / 2) hi
  have r := nttV_in (f := mulV a b) (fun i => mulV_in a b i) n
  have l := mulNttV_in (nttV a) (nttV b) n
  refine EqQ.eq ?_ l.1 l.2 r.1 r.2
  by_cases h : n % 2 = 0
  · have c0 := ntt_e (mulV a b) (n / 2) hi
    unfold mulNttV mnE
    rw [if_pos h]
    rw [show 2 * (n / 2) = n by omega] at a0 b0 c0
    rw [show 2 * (n / 2) = n by omega] at a1 b1
    rw [show 2 * (n / 2) = n by omega]
    refine (EqQ.mod _).trans (EqQ.trans ?_ (c0.trans m0).symm)
    refine EqQ.add (EqQ.mul a0 b0) ?_
    rw [Int.mul_comm (gam (n / 2))]
    exact EqQ.mul ((EqQ.mod _).trans (EqQ.mul a1 b1)) (EqQ.refl _)
  · have c1 := ntt_o (mulV a b) (n / 2) hi
    unfold mulNttV mnO
    rw [if_neg h]
    have en : 2 * (n / 2) + 1 = n := by omega
    rw [en] at c1 a1 b1
    rw [en]
    refine (EqQ.mod _).trans (EqQ.trans ?_ (c1.trans m1).symm)
    exact EqQ.add (EqQ.mul a0 b1) (EqQ.mul a1 b0)
theorem mulNttV_comm (a b : Nat → Int) (n : Nat) : mulNttV a b n = mulNttV b a n := by
  unfold mulNttV mnE mnO
  split
  · rw [Int.mul_comm (a _), Int.mul_comm (a (2 * (n / 2) + 1))]
  · rw [Int.mul_comm (a _), Int.mul_comm (a (2 * (n / 2) + 1)), Int.add_comm]
theorem mulNttV_lin (a b c : Nat → Int) (n : Nat) : mulNttV (fun i => (a i + b i) % 3329) c n = (mulNttV a c n + mulNttV b c n) % 3329 := by
  unfold mulNttV mnE mnO
  split
  · refine EqQ.eqm (EqQ.trans ?_ (EqQ.add (EqQ.mod _).symm (EqQ.mod _).symm))
    have h1 : EqQ ((a (2 * (n / 2)) + b (2 * (n / 2))) % 3329 * c (2 * (n / 2))) (a (2 * (n / 2)) * c (2 * (n / 2)) + b (2 * (n / 2)) * c (2 * (n / 2))) := (EqQ.mul (EqQ.mod _) (EqQ.refl _)).trans (EqQ.of (Int.add_mul _ _ _))
    have h2 : EqQ ((a (2 * (n / 2) + 1) + b (2 * (n / 2) + 1)) % 3329 * c (2 * (n / 2) + 1) % 3329 * gam (n / 2)) (a (2 * (n / 2) + 1) * c (2 * (n / 2) + 1) % 3329 * gam (n / 2) + b (2 * (n / 2) + 1) * c (2 * (n / 2) + 1) % 3329 * gam (n / 2)) := by
      rw [← Int.add_mul]
      refine EqQ.mul ((EqQ.mod _).trans (((EqQ.mul (EqQ.mod _) (EqQ.refl _)).trans (EqQ.of (Int.add_mul _ _ _))).trans (EqQ.add (EqQ.mod _).symm (EqQ.mod _).symm))) (EqQ.refl _)
    refine (EqQ.add h1 h2).trans (EqQ.of ?_)
    omega
  · refine EqQ.eqm (EqQ.trans ?_ (EqQ.add (EqQ.mod _).symm (EqQ.mod _).symm))
    have h1 : EqQ ((a (2 * (n / 2)) + b (2 * (n / 2))) % 3329 * c (2 * (n / 2) + 1)) (a (2 * (n / 2)) * c (2 * (n / 2) + 1) + b (2 * (n / 2)) * c (2 * (n / 2) + 1)) := (EqQ.mul (EqQ.mod _) (EqQ.refl _)).trans (EqQ.of (Int.add_mul _ _ _))
    have h2 : EqQ ((a (2 * (n / 2) + 1) + b (2 * (n / 2) + 1)) % 3329 * c (2 * (n / 2))) (a (2 * (n / 2) + 1) * c (2 * (n / 2)) + b (2 * (n / 2) + 1) * c (2 * (n / 2))) := (EqQ.mul (EqQ.mod _) (EqQ.refl _)).trans (EqQ.of (Int.add_mul _ _ _))
    refine (EqQ.add h1 h2).trans (EqQ.of ?_)
    omega
end Go.Proofs.Ythkbgflbbnjcpaa.Pure
