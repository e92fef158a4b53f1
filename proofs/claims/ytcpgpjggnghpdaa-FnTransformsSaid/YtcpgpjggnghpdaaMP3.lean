/- The transform InvNtt: its butterflies and layers. (Drafted from P2.) The transform InvNtt, of the program: one butterfly row. The transform InvNtt, of the program: one layer. The transform InvNtt, of the reference: one butterfly row, one layer. The transform InvNtt, of the program and of the reference, whole. -/
import Derived.Test.YtcpgpjggnghpdaaMP2
import Derived.Test.YtcpgpjggnghpdaaPx28
import Derived.Test.YtcpgpjggnghpdaaPx29
import Derived.Test.YtcpgpjggnghpdaaPx30
import Derived.Test.YtcpgpjggnghpdaaPx32
import Derived.Test.YtcpgpjggnghpdaaPx36
import Derived.Test.YtcpgpjggnghpdaaPx37
import Derived.Test.YtcpgpjggnghpdaaPx77
namespace Go.Proofs.Ytcpgpjggnghpdaa.Pure
open Go.RowKit Go.Proofs.YtcpgpjggnghpdaaW.PrintWords Go.Proofs.YtcpgpjggnghpdaaW.PrintLast Go.Proofs.YtcpgpjggnghpdaaW.PrintMore Go.Proofs.Ytcpgpjggnghpdaa.P

/-- A butterfly back on the numbers from st on, s of them with the s behind; the first j of them done. -/
def bfi (z : Int) (s st j : Nat) (f : Nat → Int) : Nat → Int := fun n =>
  if st ≤ n ∧ n < st + j then (f n + f (n + s)) % 3329 else if st + s ≤ n ∧ n < st + s + j then (z * (f n - f (n - s))) % 3329 else f n
theorem bfi_0 (z : Int) (s st : Nat) (f : Nat → Int) : bfi z s st 0 f = f := by
  funext n; unfold bfi; rw [if_neg (by omega), if_neg (by omega)]
theorem bfi_in {z : Int} {s st j : Nat} {f : Nat → Int} (hf : ∀ i, 0 ≤ f i ∧ f i ≤ 3328) (n : Nat) : 0 ≤ bfi z s st j f n ∧ bfi z s st j f n ≤ 3328 := by
  unfold bfi
  split
  · exact mod_in _
  · split
    · exact mod_in _
    · exact hf n
theorem bfi_at1 {z : Int} {s st j : Nat} {f : Nat → Int} (h : j < s) : bfi z s st j f (st + j) = f (st + j) := by
  unfold bfi; rw [if_neg (by omega), if_neg (by omega)]
theorem bfi_at2 {z : Int} {s st j : Nat} {f : Nat → Int} : bfi z s st j f (st + j + s) = f (st + j + s) := by
  unfold bfi; rw [if_neg (by omega), if_neg (by omega)]
theorem bfi_step (z : Int) (s st j : Nat) (f : Nat → Int) (hj : j < s) : ((vec (bfi z s st j f)).set (st + j) ((f (st + j) + f (st + j + s)) % 3329)).set (st + j + s) ((z * (f (st + j + s) - f (st + j))) % 3329) = vec (bfi z s st (j + 1) f) := by
  rw [vec_set, vec_set]
  refine vec_congr fun n _ => ?_
  by_cases h2 : n = st + j + s
  · subst h2
    rw [if_pos rfl]
    unfold bfi
    rw [if_neg (by omega), if_pos (by omega), show st + j + s - s = st + j by omega]
  · rw [if_neg h2]
    by_cases h1 : n = st + j
    · subst h1
      rw [if_pos rfl]
      unfold bfi
      rw [if_pos (by omega)]
    · rw [if_neg h1]
      unfold bfi
      by_cases a : st ≤ n ∧ n < st + j
      · rw [if_pos a, if_pos (by omega)]
      · have a' : ¬ (st ≤ n ∧ n < st + (j + 1)) := by omega
        rw [if_neg a, if_neg a']
        by_cases b : st + s ≤ n ∧ n < st + s + j
        · rw [if_pos b, if_pos (show st + s ≤ n ∧ n < st + s + (j + 1) by omega)]
        · rw [if_neg b, if_neg (show ¬ (st + s ≤ n ∧ n < st + s + (j + 1)) by omega)]
theorem bfi_swap (z : Int) (s st j : Nat) (f : Nat → Int) (hs : 1 ≤ s) (A B : Int) : ((vec (bfi z s st j f)).set (st + j + s) B).set (st + j) A = ((vec (bfi z s st j f)).set (st + j) A).set (st + j + s) B :=
  List.set_comm _ _ (by omega)

/-- A layer back: the first t butterflies of m, each of s and s numbers; the powers are taken from 2m-1 downwards. -/
def layI (s m : Nat) : Nat → (Nat → Int) → Nat → Int
  | 0, f => f
  | t + 1, f => bfi (zed (2 * m - 1 - t)) s (2 * s * t) s (layI s m t f)
theorem layI_in {s m : Nat} {f : Nat → Int} (hf : ∀ i, 0 ≤ f i ∧ f i ≤ 3328) (t : Nat) : ∀ n, 0 ≤ layI s m t f n ∧ layI s m t f n ≤ 3328 := by
  induction t with
  | zero => exact hf
  | succ t ih => exact fun n => bfi_in ih n
def invV (f : Nat → Int) : Nat → Int := fun n => layI 128 1 1 (layI 64 2 2 (layI 32 4 4 (layI 16 8 8 (layI 8 16 16 (layI 4 32 32 (layI 2 64 64 f)))))) n * 3303 % 3329

theorem mul_bd2 {z x y : Int} (hz : 0 ≤ z ∧ z ≤ 3328) (hx : 0 ≤ x ∧ x ≤ 3328) (hy : 0 ≤ y ∧ y ≤ 3328) : -11075584 ≤ z * (y - x) ∧ z * (y - x) ≤ 11075584 := by
  have h1 := mul_bd hz hx
  have h2 := mul_bd hz hy
  rw [Int.mul_sub]
  omega
theorem impl_InvNtt_l2 (f : Nat → Int) (hf : ∀ i, 0 ≤ f i ∧ f i ≤ 3328) (z : Int) (hz : 0 ≤ z ∧ z ≤ 3328) (s st : Nat) (K : Int) (hs : 1 ≤ s) (hst : st + 2 * s ≤ 256) {r : List Int}
    (h : Ev (fun k => impl_InvNtt.l1 k (vec (bfi z s st s f)) K (s : Int) ((st + 2 * s : Nat) : Int)) r) : Ev (fun k => impl_InvNtt.l2 k (vec f) K (s : Int) (st : Int) z (st : Int)) r := by
  have e0 : vec f = vec (bfi z s st 0 f) := by rw [bfi_0]
  have w1 := wadd st s (by omega)
  rw [e0]
  refine Ev.up (g := fun j k => impl_InvNtt.l2 k (vec (bfi z s st j f)) K (s : Int) (st : Int) z ((st + j : Nat) : Int)) s ?_ ?_ 0 (by omega)
  · intro j hj h'
    refine Ev.step (fun k => ?_) h'
    have c1 : st + j < st + s := Nat.add_lt_add_left hj _
    have c2 : st + j + s < 256 := Nat.lt_of_lt_of_le (Nat.add_lt_add_right c1 s) (Nat.le_trans (by rw [Nat.two_mul, Nat.add_assoc]; exact Nat.le_refl _) hst)
    have c3 : st + j < 256 := Nat.lt_of_le_of_lt (Nat.le_add_right _ s) c2
    have w2 := wadd (st + j) s (Nat.le_trans (Nat.le_of_lt c2) (by decide))
    have w3 : wrap64 (((st + j : Nat) : Int) + 1) = ((st + (j + 1) : Nat) : Int) := w64s (st + j) (Nat.lt_trans c3 (by decide))
    have h1 := hf (st + j)
    have h2 := hf (st + j + s)
    have hm := mul_bd2 hz h1 h2
    simp only [impl_InvNtt.l2]
    rw [w1]
    clear e0 w1
    rw [if_pos (Int.ofNat_lt.mpr c1), w2, if_pos (Int.natCast_nonneg _), if_pos (by rw [vec_length]; exact Int.ofNat_lt.mpr c3), if_pos (Int.natCast_nonneg _), if_pos (by rw [vec_length]; exact Int.ofNat_lt.mpr c2), vec_rd _ _ c3, vec_rd _ _ c2, bfi_at1 hj, bfi_at2, w64 (x := f (st + j) + f (st + j + s)) (by omega) (by omega), w64 (x := f (st + j + s) - f (st + j)) (by omega) (by omega), w64 (x := z * (f (st + j + s) - f (st + j))) (by omega) (by omega), modQ_eq _ (by omega) (by omega), Option.bind_some, modQ_eq _ (by omega) (by omega), Option.bind_some, Int.toNat_natCast, Int.toNat_natCast, bfi_step z s st j f hj, w3]
  · refine Ev.step (fun k => ?_) h
    have c1 : ¬ ((st + s : Nat) : Int) < ((st + s : Nat) : Int) := Int.lt_irrefl _
    have w4 := wdbl s (by clear w1; omega)
    have w5 := wadd st (2 * s) (by clear w1 w4; omega)
    simp only [impl_InvNtt.l2]
    rw [w1, if_neg c1, w4, w5]


theorem wpred (a : Nat) (h1 : 1 ≤ a) (h : a ≤ 100000) : wrap64 ((a : Int) - 1) = ((a - 1 : Nat) : Int) := by rw [w64 (by omega) (by omega)]; omega
theorem wtwice (a : Nat) (h : a ≤ 100000) : wrap64 ((a : Int) * 2) = ((a * 2 : Nat) : Int) := by rw [w64 (by omega) (by omega)]; omega
theorem impl_InvNtt_lay (s m : Nat) (hsm : 2 * s * m = 256) (hs : 2 ≤ s) (hm : 1 ≤ m) (f : Nat → Int) (hf : ∀ i, 0 ≤ f i ∧ f i ≤ 3328) {r : List Int}
    (h : Ev (fun k => impl_InvNtt.l0 k (vec (layI s m m f)) ((2 * m - 1 - m : Nat) : Int) ((s * 2 : Nat) : Int)) r) : Ev (fun k => impl_InvNtt.l0 k (vec f) ((2 * m - 1 : Nat) : Int) (s : Int)) r := by
  have hs128 : s ≤ 128 := by
    have : 2 * s * 1 ≤ 2 * s * m := Nat.mul_le_mul_left _ hm
    omega
  have hm64 : 2 * m ≤ 128 := by
    have : 4 * m ≤ 2 * s * m := Nat.mul_le_mul_right _ (by omega)
    omega
  refine Ev.step (f := fun k => impl_InvNtt.l1 k (vec f) ((2 * m - 1 : Nat) : Int) (s : Int) 0) (fun k => ?_) ?_
  · simp only [impl_InvNtt.l0]
    rw [if_pos (by omega)]
  · refine Ev.up (g := fun t k => impl_InvNtt.l1 k (vec (layI s m t f)) ((2 * m - 1 - t : Nat) : Int) (s : Int) ((2 * s * t : Nat) : Int)) m ?_ ?_ 0 (by omega)
    · intro t ht h'
      have c0 : 2 * s * t + 2 * s ≤ 256 := by rw [← Nat.mul_succ, ← hsm]; exact Nat.mul_le_mul_left _ ht
      have ek : 2 * m - 1 - t < 128 := by omega
      have w1 := wpred (2 * m - 1 - t) (by omega) (by omega)
      have e1 : 2 * m - 1 - t - 1 = 2 * m - 1 - (t + 1) := by clear w1; omega
      rw [e1] at w1
      have h2 := impl_InvNtt_l2 (layI s m t f) (layI_in hf t) (zed (2 * m - 1 - t)) (zed_in _) s (2 * s * t) ((2 * m - 1 - (t + 1) : Nat) : Int) (Nat.le_trans (by decide) hs) c0 h'
      have cond : ((2 * s * t : Nat) : Int) < 256 := by clear w1; omega
      refine Ev.step (f := fun k => (impl_Turn7.f k ((2 * m - 1 - t : Nat) : Int)).bind fun t300 => ((impl_PowQ.f k 17 t300).bind fun t301 => (impl_InvNtt.l2 k (vec (layI s m t f)) (wrap64 (((2 * m - 1 - t : Nat) : Int) - 1)) (s : Int) ((2 * s * t : Nat) : Int) t301 ((2 * s * t : Nat) : Int)))) (fun k => ?_) ?_
      · simp only [impl_InvNtt.l1]
        rw [if_pos cond]
      · rw [w1]
        exact Ev.bind (impl_Turn7_ev _ ek) (Ev.bind (impl_PowQ_ev 17 (by decide) _ (Nat.le_trans (Nat.le_of_lt (t7_lt _)) (by decide))) h2)
    · refine Ev.step (fun k => ?_) h
      have w1 := wtwice s (by omega)
      have c1 : ¬ ((2 * s * m : Nat) : Int) < 256 := by clear w1; omega
      simp only [impl_InvNtt.l1]
      rw [if_neg c1, w1]

theorem spec_back {z x y : Int} (hz : 0 ≤ z ∧ z ≤ 3328) (hx : 0 ≤ x ∧ x ≤ 3328) (hy : 0 ≤ y ∧ y ≤ 3328) : Int.tmod (wrap64 (z * (wrap64 ((wrap64 (y - x)) + 3329)))) 3329 = z * (y - x) % 3329 := by
  have h0 := mul_bd2 hz hx hy
  have e : z * (y - x + 3329) = z * (y - x) + 3329 * z := by rw [Int.mul_add, Int.mul_comm z 3329]
  have hn : 0 ≤ z * (y - x + 3329) := Int.mul_nonneg hz.1 (by omega)
  rw [w64 (x := y - x) (by omega) (by omega), w64 (x := y - x + 3329) (by omega) (by omega), w64 (x := z * (y - x + 3329)) (by omega) (by omega), Int.tmod_eq_emod_of_nonneg hn, e]
  omega
theorem spec_InvNtt_l2 (f : Nat → Int) (hf : ∀ i, 0 ≤ f i ∧ f i ≤ 3328) (z : Int) (hz : 0 ≤ z ∧ z ≤ 3328) (s st : Nat) (K : Int) (hs : 1 ≤ s) (hst : st + 2 * s ≤ 256) {r : List Int}
    (h : Ev (fun k => spec_InvNtt.l1 k (vec (bfi z s st s f)) K (s : Int) ((st + 2 * s : Nat) : Int)) r) : Ev (fun k => spec_InvNtt.l2 k (vec f) K (s : Int) (st : Int) z (st : Int)) r := by
  have e0 : vec f = vec (bfi z s st 0 f) := by rw [bfi_0]
  have w1 := wadd st s (by omega)
  rw [e0]
  refine Ev.up (g := fun j k => spec_InvNtt.l2 k (vec (bfi z s st j f)) K (s : Int) (st : Int) z ((st + j : Nat) : Int)) s ?_ ?_ 0 (by omega)
  · intro j hj h'
    refine Ev.step (fun k => ?_) h'
    have c1 : st + j < st + s := Nat.add_lt_add_left hj _
    have c2 : st + j + s < 256 := Nat.lt_of_lt_of_le (Nat.add_lt_add_right c1 s) (Nat.le_trans (by rw [Nat.two_mul, Nat.add_assoc]; exact Nat.le_refl _) hst)
    have c3 : st + j < 256 := Nat.lt_of_le_of_lt (Nat.le_add_right _ s) c2
    have w2 := wadd (st + j) s (Nat.le_trans (Nat.le_of_lt c2) (by decide))
    have w3 : wrap64 (((st + j : Nat) : Int) + 1) = ((st + (j + 1) : Nat) : Int) := w64s (st + j) (Nat.lt_trans c3 (by decide))
    have h1 := hf (st + j)
    have h2 := hf (st + j + s)
    have hm := mul_bd2 hz h1 h2
    have nj : ¬ st + j + s = st + j := by clear e0 w1 w2; omega
    have ey : ∀ v : Int, rd ((vec (bfi z s st j f)).set (st + j) v) ((st + j + s : Nat) : Int) = f (st + j + s) := by
      intro v
      rw [vec_set, vec_rd _ _ c2, if_neg nj, bfi_at2]
    have em := spec_back hz h1 h2
    simp only [spec_InvNtt.l2, Option.bind_some]
    rw [w1]
    clear e0 w1
    rw [if_pos (Int.ofNat_lt.mpr c1), w2, if_pos (Int.natCast_nonneg _), if_pos (by rw [vec_length]; exact Int.ofNat_lt.mpr c3), if_pos (Int.natCast_nonneg _), if_pos (by rw [vec_length]; exact Int.ofNat_lt.mpr c2), Int.toNat_natCast, Int.toNat_natCast, ey, vec_rd _ _ c3, bfi_at1 hj, vec_rd _ _ c2, bfi_at2, em, w64 (x := f (st + j) + f (st + j + s)) (by omega) (by omega), Int.tmod_eq_emod_of_nonneg (show 0 ≤ f (st + j) + f (st + j + s) by omega), bfi_step z s st j f hj, w3]
  · refine Ev.step (fun k => ?_) h
    have c1 : ¬ ((st + s : Nat) : Int) < ((st + s : Nat) : Int) := Int.lt_irrefl _
    have w4 := wdbl s (by clear w1; omega)
    have w5 := wadd st (2 * s) (by clear w1 w4; omega)
    simp only [spec_InvNtt.l2]
    rw [w1, if_neg c1, w4, w5]

theorem spec_InvNtt_lay (s m : Nat) (hsm : 2 * s * m = 256) (hs : 2 ≤ s) (hm : 1 ≤ m) (f : Nat → Int) (hf : ∀ i, 0 ≤ f i ∧ f i ≤ 3328) {r : List Int}
    (h : Ev (fun k => spec_InvNtt.l0 k (vec (layI s m m f)) ((2 * m - 1 - m : Nat) : Int) ((s * 2 : Nat) : Int)) r) : Ev (fun k => spec_InvNtt.l0 k (vec f) ((2 * m - 1 : Nat) : Int) (s : Int)) r := by
  have hs128 : s ≤ 128 := by
    have : 2 * s * 1 ≤ 2 * s * m := Nat.mul_le_mul_left _ hm
    omega
  have hm64 : 2 * m ≤ 128 := by
    have : 4 * m ≤ 2 * s * m := Nat.mul_le_mul_right _ (by omega)
    omega
  refine Ev.step (f := fun k => spec_InvNtt.l1 k (vec f) ((2 * m - 1 : Nat) : Int) (s : Int) 0) (fun k => ?_) ?_
  · simp only [spec_InvNtt.l0]
    rw [if_pos (by omega)]
  · refine Ev.up (g := fun t k => spec_InvNtt.l1 k (vec (layI s m t f)) ((2 * m - 1 - t : Nat) : Int) (s : Int) ((2 * s * t : Nat) : Int)) m ?_ ?_ 0 (by omega)
    · intro t ht h'
      have c0 : 2 * s * t + 2 * s ≤ 256 := by rw [← Nat.mul_succ, ← hsm]; exact Nat.mul_le_mul_left _ ht
      have ek : 2 * m - 1 - t < 128 := by omega
      have w1 := wpred (2 * m - 1 - t) (by omega) (by omega)
      have e1 : 2 * m - 1 - t - 1 = 2 * m - 1 - (t + 1) := by clear w1; omega
      rw [e1] at w1
      have h2 := spec_InvNtt_l2 (layI s m t f) (layI_in hf t) (zed (2 * m - 1 - t)) (zed_in _) s (2 * s * t) ((2 * m - 1 - (t + 1) : Nat) : Int) (Nat.le_trans (by decide) hs) c0 h'
      have cond : ((2 * s * t : Nat) : Int) < 256 := by clear w1; omega
      refine Ev.step (f := fun k => (spec_Turn7.f k ((2 * m - 1 - t : Nat) : Int)).bind fun t300 => ((spec_PowQ.f k 17 t300).bind fun t301 => (spec_InvNtt.l2 k (vec (layI s m t f)) (wrap64 (((2 * m - 1 - t : Nat) : Int) - 1)) (s : Int) ((2 * s * t : Nat) : Int) t301 ((2 * s * t : Nat) : Int)))) (fun k => ?_) ?_
      · simp only [spec_InvNtt.l1]
        rw [if_pos cond]
      · rw [w1]
        exact Ev.bind (spec_Turn7_ev _ ek) (Ev.bind (spec_PowQ_ev 17 (by decide) _ (Nat.le_trans (Nat.le_of_lt (t7_lt _)) (by decide))) h2)
    · refine Ev.step (fun k => ?_) h
      have w1 := wtwice s (by omega)
      have c1 : ¬ ((2 * s * m : Nat) : Int) < 256 := by clear w1; omega
      simp only [spec_InvNtt.l1]
      rw [if_neg c1, w1]

def fin3 (f : Nat → Int) (i : Nat) : Nat → Int := fun n => if n < i then f n * 3303 % 3329 else f n
theorem fin3_0 (f : Nat → Int) : fin3 f 0 = f := rfl
theorem fin3_all (f : Nat → Int) : vec (fin3 f 256) = vec fun n => f n * 3303 % 3329 := vec_congr fun _ hn => if_pos hn
theorem fin3_step (f : Nat → Int) (i : Nat) : (vec (fin3 f i)).set i (f i * 3303 % 3329) = vec (fin3 f (i + 1)) := by
  rw [vec_set]
  refine vec_congr fun n _ => ?_
  unfold fin3
  by_cases e : n = i
  · subst e; rw [if_pos rfl, if_pos (by omega)]
  · rw [if_neg e]
    by_cases h : n < i
    · rw [if_pos h, if_pos (by omega)]
    · rw [if_neg h, if_neg (by omega)]
theorem impl_InvNtt_l3 (f : Nat → Int) (hf : ∀ i, 0 ≤ f i ∧ f i ≤ 3328) : Ev (fun k => impl_InvNtt.l3 k (vec f) ((256 : Nat) : Int) 0) (vec fun n => f n * 3303 % 3329) := by
  have e0 : vec f = vec (fin3 f 0) := by rw [fin3_0]
  rw [e0]
  refine Ev.up (g := fun i k => impl_InvNtt.l3 k (vec (fin3 f i)) ((256 : Nat) : Int) (i : Int)) 256 ?_ ?_ 0 (by omega)
  · intro i hi h
    refine Ev.step (fun k => ?_) h
    have hb := hf i
    have ei : fin3 f i i = f i := if_neg (Nat.lt_irrefl _)
    simp only [impl_InvNtt.l3]
    rw [if_pos (by omega), if_pos (by omega), if_pos (by rw [vec_length]; omega), vec_rd _ _ hi, ei, w64 (x := f i * 3303) (by omega) (by omega), modQ_eq _ (by omega) (by omega), Option.bind_some, Int.toNat_natCast, fin3_step, w64s i (by omega)]
  · refine Ev.step (f := fun _ => some (vec (fin3 f 256))) (fun k => ?_) ?_
    · simp only [impl_InvNtt.l3]
      rw [if_neg (by omega)]
    · rw [fin3_all]; exact Ev.now _
theorem spec_InvNtt_l3 (f : Nat → Int) (hf : ∀ i, 0 ≤ f i ∧ f i ≤ 3328) : Ev (fun k => spec_InvNtt.l3 k (vec f) 0) (vec fun n => f n * 3303 % 3329) := by
  have e0 : vec f = vec (fin3 f 0) := by rw [fin3_0]
  rw [e0]
  refine Ev.up (g := fun i k => spec_InvNtt.l3 k (vec (fin3 f i)) (i : Int)) 256 ?_ ?_ 0 (by omega)
  · intro i hi h
    refine Ev.step (fun k => ?_) h
    have hb := hf i
    have ei : fin3 f i i = f i := if_neg (Nat.lt_irrefl _)
    simp only [spec_InvNtt.l3]
    rw [if_pos (by omega), if_pos (by omega), if_pos (by rw [vec_length]; omega), vec_rd _ _ hi, ei, w64 (x := f i * 3303) (by omega) (by omega), Int.tmod_eq_emod_of_nonneg (show 0 ≤ f i * 3303 by omega), Int.toNat_natCast, fin3_step, w64s i (by omega)]
  · refine Ev.step (f := fun _ => some (vec (fin3 f 256))) (fun k => ?_) ?_
    · simp only [spec_InvNtt.l3]
      rw [if_neg (by omega)]
    · rw [fin3_all]; exact Ev.now _
theorem impl_InvNtt_ev (f : Nat → Int) (hf : ∀ i, 0 ≤ f i ∧ f i ≤ 3328) : Ev (fun k => impl_InvNtt.f k (vec f)) (vec (invV f)) := by
  have core : Ev (fun k => impl_InvNtt.l0 k (vec f) 127 2) (vec (invV f)) := by
    have i1 := layI_in (s := 2) (m := 64) hf 64
    have i2 := layI_in (s := 4) (m := 32) i1 32
    have i3 := layI_in (s := 8) (m := 16) i2 16
    have i4 := layI_in (s := 16) (m := 8) i3 8
    have i5 := layI_in (s := 32) (m := 4) i4 4
    have i6 := layI_in (s := 64) (m := 2) i5 2
    have i7 := layI_in (s := 128) (m := 1) i6 1
    refine impl_InvNtt_lay 2 64 (by decide) (by decide) (by decide) f hf ?_
    refine impl_InvNtt_lay 4 32 (by decide) (by decide) (by decide) _ i1 ?_
    refine impl_InvNtt_lay 8 16 (by decide) (by decide) (by decide) _ i2 ?_
    refine impl_InvNtt_lay 16 8 (by decide) (by decide) (by decide) _ i3 ?_
    refine impl_InvNtt_lay 32 4 (by decide) (by decide) (by decide) _ i4 ?_
    refine impl_InvNtt_lay 64 2 (by decide) (by decide) (by decide) _ i5 ?_
    refine impl_InvNtt_lay 128 1 (by decide) (by decide) (by decide) _ i6 ?_
    refine Ev.step (fun k => ?_) (impl_InvNtt_l3 _ i7)
    simp only [impl_InvNtt.l0]
    rw [if_neg (by decide), vec_length]
  unfold impl_InvNtt.f
  have ok := vec_ok (f := f) fun i _ => hf i
  have ln := vec_length f
  refine Ev.bind (ok ▸ impl_PolyOk_ev (vec f) (by omega)) (Ev.pos rfl ?_)
  refine Ev.then (a := vec f) ?_ core
  unfold impl_copyInts.f
  rw [if_pos (by rw [ln]; decide), List.nil_append]

theorem spec_InvNtt_ev (f : Nat → Int) (hf : ∀ i, 0 ≤ f i ∧ f i ≤ 3328) : Ev (fun k => spec_InvNtt.f k (vec f)) (vec (invV f)) := by
  have core : Ev (fun k => spec_InvNtt.l0 k (vec f) 127 2) (vec (invV f)) := by
    have i1 := layI_in (s := 2) (m := 64) hf 64
    have i2 := layI_in (s := 4) (m := 32) i1 32
    have i3 := layI_in (s := 8) (m := 16) i2 16
    have i4 := layI_in (s := 16) (m := 8) i3 8
    have i5 := layI_in (s := 32) (m := 4) i4 4
    have i6 := layI_in (s := 64) (m := 2) i5 2
    have i7 := layI_in (s := 128) (m := 1) i6 1
    refine spec_InvNtt_lay 2 64 (by decide) (by decide) (by decide) f hf ?_
    refine spec_InvNtt_lay 4 32 (by decide) (by decide) (by decide) _ i1 ?_
    refine spec_InvNtt_lay 8 16 (by decide) (by decide) (by decide) _ i2 ?_
    refine spec_InvNtt_lay 16 8 (by decide) (by decide) (by decide) _ i3 ?_
    refine spec_InvNtt_lay 32 4 (by decide) (by decide) (by decide) _ i4 ?_
    refine spec_InvNtt_lay 64 2 (by decide) (by decide) (by decide) _ i5 ?_
    refine spec_InvNtt_lay 128 1 (by decide) (by decide) (by decide) _ i6 ?_
    refine Ev.step (fun k => ?_) (spec_InvNtt_l3 _ i7)
    simp only [spec_InvNtt.l0]
    rw [if_neg (by decide)]
  unfold spec_InvNtt.f
  have ok := vec_ok (f := f) fun i _ => hf i
  have ln := vec_length f
  refine Ev.bind (ok ▸ spec_PolyOk_ev (vec f)) (Ev.pos rfl ?_)
  simp only [Option.bind_some]
  refine Ev.pos (by rw [ln]; decide) ?_
  rw [List.nil_append]
  exact core
end Go.Proofs.Ytcpgpjggnghpdaa.Pure
