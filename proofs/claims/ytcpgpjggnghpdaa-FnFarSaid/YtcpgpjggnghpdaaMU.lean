/- Numbers modulo 3329, and sums over the first n places. -/
import Derived.Test.YtcpgpjggnghpdaaMK
namespace Go.Proofs.Ytcpgpjggnghpdaa.Pure
open Go.RowKit Go.Proofs.YtcpgpjggnghpdaaW.PrintWords Go.Proofs.YtcpgpjggnghpdaaW.PrintLast Go.Proofs.YtcpgpjggnghpdaaW.PrintMore

def EqQ (x y : Int) : Prop := x % 3329 = y % 3329
theorem EqQ.refl (x : Int) : EqQ x x := rfl
theorem EqQ.of {x y : Int} (h : x = y) : EqQ x y := by rw [h]; exact EqQ.refl y
theorem EqQ.symm {x y : Int} (h : EqQ x y) : EqQ y x := Eq.symm h
theorem EqQ.trans {x y z : Int} (h : EqQ x y) (k : EqQ y z) : EqQ x z := Eq.trans h k
theorem EqQ.mod (x : Int) : EqQ (x % 3329) x := Int.emod_emod_of_dvd _ (Int.dvd_refl _)
theorem EqQ.add {x y z w : Int} (h : EqQ x y) (k : EqQ z w) : EqQ (x + z) (y + w) := by unfold EqQ at *; omega
theorem EqQ.sub {x y z w : Int} (h : EqQ x y) (k : EqQ z w) : EqQ (x - z) (y - w) := by unfold EqQ at *; omega
theorem EqQ.neg {x y : Int} (h : EqQ x y) : EqQ (-x) (-y) := by unfold EqQ at *; omega
theorem EqQ.mul {x y z w : Int} (h : EqQ x y) (k : EqQ z w) : EqQ (x * z) (y * w) := by
  unfold EqQ at *
  rw [Int.mul_emod, h, k, ← Int.mul_emod]
theorem EqQ.eq {x y : Int} (h : EqQ x y) (h0 : 0 ≤ x) (h1 : x ≤ 3328) (h2 : 0 ≤ y) (h3 : y ≤ 3328) : x = y := by unfold EqQ at h; omega
theorem EqQ.eqm {x y : Int} (h : EqQ x y) : x % 3329 = y % 3329 := h
theorem mod_in (x : Int) : 0 ≤ x % 3329 ∧ x % 3329 ≤ 3328 := by omega

def sumN : Nat → (Nat → Int) → Int
  | 0, _ => 0
  | n + 1, f => sumN n f + f n
theorem sumN_congr {n : Nat} {f g : Nat → Int} (h : ∀ i, i < n → f i = g i) : sumN n f = sumN n g := by
  induction n with
  | zero => rfl
  | succ n ih =>
    simp only [sumN]
    rw [ih fun i hi => h i (by omega), h n (by omega)]
theorem sumN_eqQ {n : Nat} {f g : Nat → Int} (h : ∀ i, i < n → EqQ (f i) (g i)) : EqQ (sumN n f) (sumN n g) := by
  induction n with
  | zero => exact EqQ.refl _
  | succ n ih => exact EqQ.add (ih fun i hi => h i (by omega)) (h n (by omega))
theorem sumN_add (n : Nat) (f g : Nat → Int) : sumN n (fun i => f i + g i) = sumN n f + sumN n g := by
  induction n with
  | zero => rfl
  | succ n ih => simp only [sumN]; rw [ih]; omega
theorem sumN_sub (n : Nat) (f g : Nat → Int) : sumN n (fun i => f i - g i) = sumN n f - sumN n g := by
  induction n with
  | zero => rfl
  | succ n ih => simp only [sumN]; rw [ih]; omega
theorem sumN_neg (n : Nat) (f : Nat → Int) : sumN n (fun i => -f i) = -sumN n f := by
  induction n with
  | zero => rfl
  | succ n ih => simp only [sumN]; rw [ih]; omega
theorem sumN_mul (n : Nat) (c : Int) (f : Nat → Int) : sumN n (fun i => c * f i) = c * sumN n f := by
  induction n with
  | zero => simp [sumN]
  | succ n ih => simp only [sumN]; rw [ih, Int.mul_add]
theorem sumN_mul_right (n : Nat) (c : Int) (f : Nat → Int) : sumN n (fun i => f i * c) = sumN n f * c := by
  induction n with
  | zero => simp [sumN]
  | succ n ih => simp only [sumN]; rw [ih, Int.add_mul]
theorem sumN_zero (n : Nat) : sumN n (fun _ => 0) = 0 := by
  induction n with
  | zero => rfl
  | succ n ih => simp only [sumN]; rw [ih]; rfl
theorem sumN_front (n : Nat) (f : Nat → Int) : sumN (n + 1) f = f 0 + sumN n (fun i => f (i + 1)) := by
  induction n with
  | zero => simp [sumN]
  | succ n ih => rw [sumN, ih]; simp only [sumN]; omega
theorem sumN_split (m n : Nat) (f : Nat → Int) : sumN (m + n) f = sumN m f + sumN n (fun i => f (m + i)) := by
  induction n with
  | zero => simp [sumN]
  | succ n ih => rw [← Nat.add_assoc, sumN, ih]; simp only [sumN]; omega
theorem sumN_rev (n : Nat) (f : Nat → Int) : sumN n (fun i => f (n - 1 - i)) = sumN n f := by
  induction n with
  | zero => rfl
  | succ n ih =>
    rw [sumN_front, sumN]
    rw [sumN_congr (g := fun i => f (n - 1 - i)) (fun i hi => by congr 1; omega), ih]
    rw [show n + 1 - 1 - 0 = n by omega]; omega
theorem sumN_comm (m n : Nat) (f : Nat → Nat → Int) : sumN m (fun i => sumN n (f i)) = sumN n (fun j => sumN m (fun i => f i j)) := by
  induction m with
  | zero => simp only [sumN]; rw [sumN_zero]
  | succ m ih => simp only [sumN]; rw [ih, sumN_add]
/-- Even places and odd ones. -/
theorem sumN_two (n : Nat) (f : Nat → Int) : sumN (2 * n) f = sumN n (fun i => f (2 * i)) + sumN n (fun i => f (2 * i + 1)) := by
  induction n with
  | zero => rfl
  | succ n ih =>
    rw [show 2 * (n + 1) = 2 * n + 1 + 1 by omega]
    simp only [sumN]
    rw [ih]; omega
theorem sumN_bound {n : Nat} {f : Nat → Int} {c : Int} (h : ∀ i, i < n → -c ≤ f i ∧ f i ≤ c) : -(n * c) ≤ sumN n f ∧ sumN n f ≤ n * c := by
  induction n with
  | zero => simp [sumN]
  | succ n ih =>
    have h1 := ih fun i hi => h i (by omega)
    have h2 := h n (by omega)
    simp only [sumN]
    have e : ((n + 1 : Nat) : Int) * c = n * c + c := by
      rw [Int.natCast_add, Int.add_mul]; simp
    omega
end Go.Proofs.Ytcpgpjggnghpdaa.Pure
