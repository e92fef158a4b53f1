/- Products of polynomials modulo 3329 and X to 256 and one: in whatever order, and through sums. -/
import Derived.Test.YtcpgpjggnghpdaaMV
namespace Go.Proofs.Ytcpgpjggnghpdaa.Pure
open Go.RowKit Go.Proofs.YtcpgpjggnghpdaaW.PrintWords Go.Proofs.YtcpgpjggnghpdaaW.PrintLast Go.Proofs.YtcpgpjggnghpdaaW.PrintMore

theorem mulV_in (a b : Nat → Int) (n : Nat) : 0 ≤ mulV a b n ∧ mulV a b n ≤ 3328 := mod_in _
theorem sumM_comm (a b : Nat → Int) (n : Nat) (hn : n < 256) : sumN 256 (fun i => termM a b i n) = sumN 256 (fun i => termM b a i n) := by
  have h1 : sumN (n + 1) (fun i => termM a b i n) = sumN (n + 1) (fun i => termM b a i n) := by
    rw [← sumN_rev (n + 1) (fun i => termM b a i n)]
    refine sumN_congr fun i hi => ?_
    unfold termM
    rw [if_pos (by omega), if_pos (by omega), show n - (n + 1 - 1 - i) = i by omega, show n + 1 - 1 - i = n - i by omega, Int.mul_comm]
  have h2 : sumN (255 - n) (fun i => termM a b (n + 1 + i) n) = sumN (255 - n) (fun i => termM b a (n + 1 + i) n) := by
    rw [← sumN_rev (255 - n) (fun i => termM b a (n + 1 + i) n)]
    refine sumN_congr fun i hi => ?_
    unfold termM
    rw [if_neg (by omega), if_neg (by omega), show 256 + n - (n + 1 + (255 - n - 1 - i)) = n + 1 + i by omega, show n + 1 + (255 - n - 1 - i) = 256 + n - (n + 1 + i) by omega, Int.mul_comm]
  rw [show 256 = (n + 1) + (255 - n) by omega, sumN_split (n + 1) (255 - n) (fun i => termM a b i n), sumN_split (n + 1) (255 - n) (fun i => termM b a i n), h1, h2]
theorem mulV_comm (a b : Nat → Int) (n : Nat) (hn : n < 256) : mulV a b n = mulV b a n := by
  unfold mulV; rw [sumM_comm a b n hn]
theorem termM_eqQ {a a' b b' : Nat → Int} (ha : ∀ i, EqQ (a i) (a' i)) (hb : ∀ i, EqQ (b i) (b' i)) (i n : Nat) : EqQ (termM a b i n) (termM a' b' i n) := by
  unfold termM
  split
  · exact EqQ.mul (ha _) (hb _)
  · exact EqQ.neg (EqQ.mul (ha _) (hb _))
theorem mulV_eqQ {a a' b b' : Nat → Int} (ha : ∀ i, EqQ (a i) (a' i)) (hb : ∀ i, EqQ (b i) (b' i)) (n : Nat) : mulV a b n = mulV a' b' n :=
  (sumN_eqQ fun i _ => termM_eqQ ha hb i n).eqm
theorem termM_add (a b c : Nat → Int) (i n : Nat) : termM (fun i => a i + b i) c i n = termM a c i n + termM b c i n := by
  unfold termM
  split
  · rw [Int.add_mul]
  · rw [Int.add_mul]; omega
theorem mulV_add (a b c : Nat → Int) (n : Nat) : mulV (fun i => (a i + b i) % 3329) c n = (mulV a c n + mulV b c n) % 3329 := by
  rw [mulV_eqQ (a' := fun i => a i + b i) (b' := c) (fun i => EqQ.mod _) (fun i => EqQ.refl _) n]
  unfold mulV
  simp only [termM_add]
  rw [sumN_add]
  exact (EqQ.add (EqQ.mod _) (EqQ.mod _)).symm.eqm
end Go.Proofs.Ytcpgpjggnghpdaa.Pure
