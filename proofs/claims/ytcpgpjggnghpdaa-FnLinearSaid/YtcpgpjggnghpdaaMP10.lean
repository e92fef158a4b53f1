/- Products by transforms are products. -/
import Derived.Test.YtcpgpjggnghpdaaMP9
import Derived.Test.YtcpgpjggnghpdaaMR
namespace Go.Proofs.Ytcpgpjggnghpdaa.Pure
open Go.RowKit Go.Proofs.YtcpgpjggnghpdaaW.PrintWords Go.Proofs.YtcpgpjggnghpdaaW.PrintLast Go.Proofs.YtcpgpjggnghpdaaW.PrintMore

/-- b moved by i places, around. -/
def sh (i : Nat) (b : Nat → Int) (n : Nat) : Int := if i ≤ n then b (n - i) else -b (256 + n - i)
theorem termM_sh (a b : Nat → Int) (i n : Nat) : termM a b i n = a i * sh i b n := by
  unfold termM sh
  split
  · rfl
  · rw [Int.mul_neg]
theorem sh_0 (b : Nat → Int) : sh 0 b = b := by
  funext n
  unfold sh
  rw [if_pos (Nat.zero_le _)]
  rfl
theorem sh_up (i : Nat) (b : Nat → Int) (hi : i < 256) (n : Nat) : sh (i + 1) b n = if n = 0 then -sh i b 255 else sh i b (n - 1) := by
  unfold sh
  by_cases h : n = 0
  · subst h
    rw [if_neg (by omega), if_pos rfl, if_pos (by omega), show 256 + 0 - (i + 1) = 255 - i by omega]
  · rw [if_neg h]
    by_cases h2 : i + 1 ≤ n
    · rw [if_pos h2, if_pos (by omega), show n - (i + 1) = n - 1 - i by omega]
    · rw [if_neg h2, if_neg (by omega), show 256 + n - (i + 1) = 256 + (n - 1) - i by omega]
theorem E1_up (g : Int) (i : Nat) (b : Nat → Int) (hi : i < 256) : E1 g (sh (i + 1) b) = E0 g (sh i b) := by
  unfold E1 E0
  refine sumN_congr fun j _ => ?_
  rw [sh_up i b hi, if_neg (by omega), show 2 * j + 1 - 1 = 2 * j by omega]
theorem E0_front (g : Int) (f : Nat → Int) : E0 g f = f 0 * g ^ 0 + sumN 127 fun j => f (2 * (j + 1)) * g ^ (j + 1) := sumN_front 127 fun j => f (2 * j) * g ^ j
theorem E1_last (g : Int) (f : Nat → Int) : E1 g f = (sumN 127 fun j => f (2 * j + 1) * g ^ j) + f 255 * g ^ 127 := rfl
theorem E0_up (g : Int) (hg : EqQ (g ^ 128) (-1)) (i : Nat) (b : Nat → Int) (hi : i < 256) : EqQ (E0 g (sh (i + 1) b)) (g * E1 g (sh i b)) := by
  have e1 : E0 g (sh (i + 1) b) = -sh i b 255 + sumN 127 fun j => sh i b (2 * j + 1) * g ^ (j + 1) := by
    rw [E0_front, sh_up i b hi 0, if_pos rfl, Int.pow_zero, Int.mul_one]
    rw [sumN_congr (g := fun j => sh i b (2 * j + 1) * g ^ (j + 1)) fun j _ => by rw [sh_up i b hi, if_neg (by omega), show 2 * (j + 1) - 1 = 2 * j + 1 by omega]]
  have e2 : g * E1 g (sh i b) = (sumN 127 fun j => sh i b (2 * j + 1) * g ^ (j + 1)) + sh i b 255 * g ^ 128 := by
    rw [E1_last, Int.mul_add, ← sumN_mul]
    rw [sumN_congr (g := fun j => sh i b (2 * j + 1) * g ^ (j + 1)) fun j _ => by rw [Int.pow_succ, Int.mul_left_comm, Int.mul_comm g]]
    rw [show g * (sh i b 255 * g ^ 127) = sh i b 255 * g ^ 128 by rw [Int.pow_succ g 127, Int.mul_left_comm, Int.mul_comm g]]
  rw [e1, e2, Int.add_comm]
  refine EqQ.add (EqQ.refl _) ?_
  refine EqQ.trans (EqQ.of ?_) (EqQ.mul (EqQ.refl _) hg.symm)
  omega
theorem E_sh (g : Int) (hg : EqQ (g ^ 128) (-1)) (b : Nat → Int) (k : Nat) (hk : k < 128) :
    (EqQ (E0 g (sh (2 * k) b)) (g ^ k * E0 g b) ∧ EqQ (E1 g (sh (2 * k) b)) (g ^ k * E1 g b)) ∧
    (EqQ (E0 g (sh (2 * k + 1) b)) (g ^ k * (g * E1 g b)) ∧ EqQ (E1 g (sh (2 * k + 1) b)) (g ^ k * E0 g b)) := by
  have odd : ∀ k, k < 128 → (EqQ (E0 g (sh (2 * k) b)) (g ^ k * E0 g b) ∧ EqQ (E1 g (sh (2 * k) b)) (g ^ k * E1 g b)) → (EqQ (E0 g (sh (2 * k + 1) b)) (g ^ k * (g * E1 g b)) ∧ EqQ (E1 g (sh (2 * k + 1) b)) (g ^ k * E0 g b)) := by
    intro k hk h
    refine ⟨?_, ?_⟩
    · refine (E0_up g hg (2 * k) b (by omega)).trans ((EqQ.mul (EqQ.refl g) h.2).trans (EqQ.of ?_))
      rw [Int.mul_left_comm]
    · rw [E1_up g (2 * k) b (by omega)]
      exact h.1
  induction k with
  | zero =>
    have h0 : (EqQ (E0 g (sh (2 * 0) b)) (g ^ 0 * E0 g b) ∧ EqQ (E1 g (sh (2 * 0) b)) (g ^ 0 * E1 g b)) := by
      rw [show 2 * 0 = 0 from rfl, sh_0, Int.pow_zero, Int.one_mul, Int.one_mul]
      exact ⟨EqQ.refl _, EqQ.refl _⟩
    exact ⟨h0, odd 0 hk h0⟩
  | succ k ih =>
    obtain ⟨h1, h2⟩ := ih (by omega)
    have h3 : (EqQ (E0 g (sh (2 * (k + 1)) b)) (g ^ (k + 1) * E0 g b) ∧ EqQ (E1 g (sh (2 * (k + 1)) b)) (g ^ (k + 1) * E1 g b)) := by
      rw [show 2 * (k + 1) = 2 * k + 1 + 1 by omega]
      refine ⟨?_, ?_⟩
      · refine (E0_up g hg (2 * k + 1) b (by omega)).trans ((EqQ.mul (EqQ.refl g) h2.2).trans (EqQ.of ?_))
        rw [Int.pow_succ, ← Int.mul_assoc, Int.mul_comm g]
      · rw [E1_up g (2 * k + 1) b (by omega)]
        refine h2.1.trans (EqQ.of ?_)
        rw [Int.pow_succ, ← Int.mul_assoc]
    exact ⟨h3, odd (k + 1) hk h3⟩
theorem E_mulV (g : Int) (hg : EqQ (g ^ 128) (-1)) (a b : Nat → Int) :
    EqQ (E0 g (mulV a b)) (E0 g a * E0 g b + g * (E1 g a * E1 g b)) ∧ EqQ (E1 g (mulV a b)) (E0 g a * E1 g b + E1 g a * E0 g b) := by
  have swap : ∀ d : Nat, EqQ (sumN 128 fun j => mulV a b (2 * j + d) * g ^ j) (sumN 256 fun i => a i * sumN 128 fun j => sh i b (2 * j + d) * g ^ j) := by
    intro d
    refine EqQ.trans (sumN_eqQ fun j _ => EqQ.mul (EqQ.mod _) (EqQ.refl _)) (EqQ.of ?_)
    rw [sumN_congr (g := fun j => sumN 256 fun i => a i * (sh i b (2 * j + d) * g ^ j)) fun j _ => ?_]
    · rw [sumN_comm]
      refine sumN_congr fun i _ => ?_
      rw [sumN_mul]
    · rw [← sumN_mul_right]
      refine sumN_congr fun i _ => ?_
      rw [termM_sh, Int.mul_assoc]
  have s0 := swap 0
  have s1 := swap 1
  have f0 : EqQ (E0 g (mulV a b)) (sumN (2 * 128) fun i => a i * E0 g (sh i b)) := s0
  have f1 : EqQ (E1 g (mulV a b)) (sumN (2 * 128) fun i => a i * E1 g (sh i b)) := s1
  rw [sumN_two] at f0 f1
  refine ⟨f0.trans ?_, f1.trans ?_⟩
  · refine EqQ.add ?_ ?_
    · refine EqQ.trans (sumN_eqQ fun j hj => EqQ.mul (EqQ.refl _) (E_sh g hg b j hj).1.1) (EqQ.of ?_)
      rw [show E0 g a * E0 g b = sumN 128 fun j => a (2 * j) * g ^ j * E0 g b from (sumN_mul_right _ _ _).symm]
      exact sumN_congr fun j _ => (Int.mul_assoc _ _ _).symm
    · refine EqQ.trans (sumN_eqQ fun j hj => EqQ.mul (EqQ.refl _) (E_sh g hg b j hj).2.1) (EqQ.of ?_)
      rw [show g * (E1 g a * E1 g b) = E1 g a * (g * E1 g b) by rw [Int.mul_left_comm], show E1 g a * (g * E1 g b) = sumN 128 fun j => a (2 * j + 1) * g ^ j * (g * E1 g b) from (sumN_mul_right _ _ _).symm]
      exact sumN_congr fun j _ => (Int.mul_assoc _ _ _).symm
  · refine EqQ.add ?_ ?_
    · refine EqQ.trans (sumN_eqQ fun j hj => EqQ.mul (EqQ.refl _) (E_sh g hg b j hj).1.2) (EqQ.of ?_)
      rw [show E0 g a * E1 g b = sumN 128 fun j => a (2 * j) * g ^ j * E1 g b from (sumN_mul_right _ _ _).symm]
      exact sumN_congr fun j _ => (Int.mul_assoc _ _ _).symm
    · refine EqQ.trans (sumN_eqQ fun j hj => EqQ.mul (EqQ.refl _) (E_sh g hg b j hj).2.2) (EqQ.of ?_)
      rw [show E1 g a * E0 g b = sumN 128 fun j => a (2 * j + 1) * g ^ j * E0 g b from (sumN_mul_right _ _ _).symm]
      exact sumN_congr fun j _ => (Int.mul_assoc _ _ _).symm
/-- The product of two transforms is the transform of the product. -/
theorem ntt_mul {a b : Nat → Int} (n : Nat) (hn : n < 256) : mulNttV (nttV a) (nttV b) n = nttV (mulV a b) n := by
  have hi : n / 2 < 128 := by omega
  have hg := gam_half (n / 2) hi
  obtain ⟨m0, m1⟩ := E_mulV (gam (n / 2)) hg a b
  have a0 := ntt_e a (n / 2) hi
  have a1 := ntt_o a (n / 2) hi
  have b0 := ntt_e b (n / 2) hi
  have b1 := ntt_o b (n / 2) hi
  have r := nttV_in (f := mulV a b) (fun i => mulV_in a b i) n
  have l := mulNttV_in (nttV a) (nttV b) n
  refine EqQ.eq ?_ l.1 l.2 r.1 r.2
  by_cases h : n % 2 = 0
  · have c0 := ntt_e (mulV a b) (n / 2) hi
    unfold mulNttV mnE
    rw [if_pos h]
    rw [show 2 * (n / 2) = n by omega] at a0 b0 c0
    rw [show 2 * (n / 2) = n by omega] at a1 b1
    rw [show 2 * (n / 2) = n by omega]
    refine (EqQ.mod _).trans (EqQ.trans ?_ (c0.trans m0).symm)
    refine EqQ.add (EqQ.mul a0 b0) ?_
    rw [Int.mul_comm (gam (n / 2))]
    exact EqQ.mul ((EqQ.mod _).trans (EqQ.mul a1 b1)) (EqQ.refl _)
  · have c1 := ntt_o (mulV a b) (n / 2) hi
    unfold mulNttV mnO
    rw [if_neg h]
    have en : 2 * (n / 2) + 1 = n := by omega
    rw [en] at c1 a1 b1
    rw [en]
    refine (EqQ.mod _).trans (EqQ.trans ?_ (c1.trans m1).symm)
    exact EqQ.add (EqQ.mul a0 b1) (EqQ.mul a1 b0)
theorem mulNttV_comm (a b : Nat → Int) (n : Nat) : mulNttV a b n = mulNttV b a n := by
  unfold mulNttV mnE mnO
  split
  · rw [Int.mul_comm (a _), Int.mul_comm (a (2 * (n / 2) + 1))]
  · rw [Int.mul_comm (a _), Int.mul_comm (a (2 * (n / 2) + 1)), Int.add_comm]
theorem mulNttV_lin (a b c : Nat → Int) (n : Nat) : mulNttV (fun i => (a i + b i) % 3329) c n = (mulNttV a c n + mulNttV b c n) % 3329 := by
  unfold mulNttV mnE mnO
  split
  · refine EqQ.eqm (EqQ.trans ?_ (EqQ.add (EqQ.mod _).symm (EqQ.mod _).symm))
    have h1 : EqQ ((a (2 * (n / 2)) + b (2 * (n / 2))) % 3329 * c (2 * (n / 2))) (a (2 * (n / 2)) * c (2 * (n / 2)) + b (2 * (n / 2)) * c (2 * (n / 2))) := (EqQ.mul (EqQ.mod _) (EqQ.refl _)).trans (EqQ.of (Int.add_mul _ _ _))
    have h2 : EqQ ((a (2 * (n / 2) + 1) + b (2 * (n / 2) + 1)) % 3329 * c (2 * (n / 2) + 1) % 3329 * gam (n / 2)) (a (2 * (n / 2) + 1) * c (2 * (n / 2) + 1) % 3329 * gam (n / 2) + b (2 * (n / 2) + 1) * c (2 * (n / 2) + 1) % 3329 * gam (n / 2)) := by
      rw [← Int.add_mul]
      refine EqQ.mul ((EqQ.mod _).trans (((EqQ.mul (EqQ.mod _) (EqQ.refl _)).trans (EqQ.of (Int.add_mul _ _ _))).trans (EqQ.add (EqQ.mod _).symm (EqQ.mod _).symm))) (EqQ.refl _)
    refine (EqQ.add h1 h2).trans (EqQ.of ?_)
    omega
  · refine EqQ.eqm (EqQ.trans ?_ (EqQ.add (EqQ.mod _).symm (EqQ.mod _).symm))
    have h1 : EqQ ((a (2 * (n / 2)) + b (2 * (n / 2))) % 3329 * c (2 * (n / 2) + 1)) (a (2 * (n / 2)) * c (2 * (n / 2) + 1) + b (2 * (n / 2)) * c (2 * (n / 2) + 1)) := (EqQ.mul (EqQ.mod _) (EqQ.refl _)).trans (EqQ.of (Int.add_mul _ _ _))
    have h2 : EqQ ((a (2 * (n / 2) + 1) + b (2 * (n / 2) + 1)) % 3329 * c (2 * (n / 2))) (a (2 * (n / 2) + 1) * c (2 * (n / 2)) + b (2 * (n / 2) + 1) * c (2 * (n / 2))) := (EqQ.mul (EqQ.mod _) (EqQ.refl _)).trans (EqQ.of (Int.add_mul _ _ _))
    refine (EqQ.add h1 h2).trans (EqQ.of ?_)
    omega
end Go.Proofs.Ytcpgpjggnghpdaa.Pure
