/- The transform InvNtt: its butterflies and layers. (Drafted from P2.) -/
import Derived.Test.YtcpgpjggnghpdaaMP2
namespace Go.Proofs.Ytcpgpjggnghpdaa.Pure
open Go.RowKit Go.Proofs.YtcpgpjggnghpdaaW.PrintWords Go.Proofs.YtcpgpjggnghpdaaW.PrintLast Go.Proofs.YtcpgpjggnghpdaaW.PrintMore Go.Proofs.Ytcpgpjggnghpdaa.P

/-- A butterfly back on the numbers from st on, s of them with the s behind; the first j of them done. -/
def bfi (z : Int) (s st j : Nat) (f : Nat → Int) : Nat → Int := fun n =>
  if st ≤ n ∧ n < st + j then (f n + f (n + s)) % 3329 else if st + s ≤ n ∧ n < st + s + j then (z * (f n - f (n - s))) % 3329 else f n
theorem bfi_0 (z : Int) (s st : Nat) (f : Nat → Int) : bfi z s st 0 f = f := by
  funext n; unfold bfi; rw [if_neg (by omega), if_neg (by omega)]
theorem bfi_in {z : Int} {s st j : Nat} {f : Nat → Int} (hf : ∀ i, 0 ≤ f i ∧ f i ≤ 3328) (n : Nat) : 0 ≤ bfi z s st j f n ∧ bfi z s st j f n ≤ 3328 := by
  unfold bfi
  split
  · exact mod_in _
  · split
    · exact mod_in _
    · exact hf n
theorem bfi_at1 {z : Int} {s st j : Nat} {f : Nat → Int} (h : j < s) : bfi z s st j f (st + j) = f (st + j) := by
  unfold bfi; rw [if_neg (by omega), if_neg (by omega)]
theorem bfi_at2 {z : Int} {s st j : Nat} {f : Nat → Int} : bfi z s st j f (st + j + s) = f (st + j + s) := by
  unfold bfi; rw [if_neg (by omega), if_neg (by omega)]
theorem bfi_step (z : Int) (s st j : Nat) (f : Nat → Int) (hj : j < s) : ((vec (bfi z s st j f)).set (st + j) ((f (st + j) + f (st + j + s)) % 3329)).set (st + j + s) ((z * (f (st + j + s) - f (st + j))) % 3329) = vec (bfi z s st (j + 1) f) := by
  rw [vec_set, vec_set]
  refine vec_congr fun n _ => ?_
  by_cases h2 : n = st + j + s
  · subst h2
    rw [if_pos rfl]
    unfold bfi
    rw [if_neg (by omega), if_pos (by omega), show st + j + s - s = st + j by omega]
  · rw [if_neg h2]
    by_cases h1 : n = st + j
    · subst h1
      rw [if_pos rfl]
      unfold bfi
      rw [if_pos (by omega)]
    · rw [if_neg h1]
      unfold bfi
      by_cases a : st ≤ n ∧ n < st + j
      · rw [if_pos a, if_pos (by omega)]
      · have a' : ¬ (st ≤ n ∧ n < st + (j + 1)) := by omega
        rw [if_neg a, if_neg a']
        by_cases b : st + s ≤ n ∧ n < st + s + j
        · rw [if_pos b, if_pos (show st + s ≤ n ∧ n < st + s + (j + 1) by omega)]
        · rw [if_neg b, if_neg (show ¬ (st + s ≤ n ∧ n < st + s + (j + 1)) by omega)]
theorem bfi_swap (z : Int) (s st j : Nat) (f : Nat → Int) (hs : 1 ≤ s) (A B : Int) : ((vec (bfi z s st j f)).set (st + j + s) B).set (st + j) A = ((vec (bfi z s st j f)).set (st + j) A).set (st + j + s) B :=
  List.set_comm _ _ (by omega)

/-- A layer back: the first t butterflies of m, each of s and s numbers; the powers are taken from 2m-1 downwards. -/
def layI (s m : Nat) : Nat → (Nat → Int) → Nat → Int
  | 0, f => f
  | t + 1, f => bfi (zed (2 * m - 1 - t)) s (2 * s * t) s (layI s m t f)
theorem layI_in {s m : Nat} {f : Nat → Int} (hf : ∀ i, 0 ≤ f i ∧ f i ≤ 3328) (t : Nat) : ∀ n, 0 ≤ layI s m t f n ∧ layI s m t f n ≤ 3328 := by
  induction t with
  | zero => exact hf
  | succ t ih => exact fun n => bfi_in ih n
def invV (f : Nat → Int) : Nat → Int := fun n => layI 128 1 1 (layI 64 2 2 (layI 32 4 4 (layI 16 8 8 (layI 8 16 16 (layI 4 32 32 (layI 2 64 64 f)))))) n * 3303 % 3329
end Go.Proofs.Ytcpgpjggnghpdaa.Pure
