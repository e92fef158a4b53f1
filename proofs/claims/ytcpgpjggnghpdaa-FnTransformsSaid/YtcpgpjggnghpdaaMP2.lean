/- The transform Ntt, of the program and of the reference: seven layers of butterflies. -/
import Derived.Test.YtcpgpjggnghpdaaMP1
import Derived.Test.YtcpgpjggnghpdaaPx28
import Derived.Test.YtcpgpjggnghpdaaPx29
import Derived.Test.YtcpgpjggnghpdaaPx30
import Derived.Test.YtcpgpjggnghpdaaPx31
import Derived.Test.YtcpgpjggnghpdaaPx36
import Derived.Test.YtcpgpjggnghpdaaPx37
import Derived.Test.YtcpgpjggnghpdaaPx63
namespace Go.Proofs.Ytcpgpjggnghpdaa.Pure
open Go.RowKit Go.Proofs.YtcpgpjggnghpdaaW.PrintWords Go.Proofs.YtcpgpjggnghpdaaW.PrintLast Go.Proofs.YtcpgpjggnghpdaaW.PrintMore Go.Proofs.Ytcpgpjggnghpdaa.P

theorem wadd (a b : Nat) (h : a + b ≤ 100000) : wrap64 ((a : Int) + (b : Int)) = ((a + b : Nat) : Int) := by rw [w64 (by omega) (by omega)]; omega
theorem wdbl (a : Nat) (h : a ≤ 100000) : wrap64 (2 * (a : Int)) = ((2 * a : Nat) : Int) := by rw [w64 (by omega) (by omega)]; omega
theorem whalf (a : Nat) (h : a ≤ 100000) : wrap64 (Int.tdiv (a : Int) 2) = ((a / 2 : Nat) : Int) := half_e a (by omega)
theorem wmul_in {x y : Int} (hx : 0 ≤ x ∧ x ≤ 3328) (hy : 0 ≤ y ∧ y ≤ 3328) : wrap64 (x * y) = x * y := by
  have := mul_bd hx hy
  exact w64 (by omega) (by omega)

/-- A butterfly on the numbers from st on, s of them with the s behind; the first j of them done. -/
def bfp (z : Int) (s st j : Nat) (f : Nat → Int) : Nat → Int := fun n =>
  if st ≤ n ∧ n < st + j then (f n + z * f (n + s)) % 3329 else if st + s ≤ n ∧ n < st + s + j then (f (n - s) - z * f n) % 3329 else f n
theorem bfp_0 (z : Int) (s st : Nat) (f : Nat → Int) : bfp z s st 0 f = f := by
  funext n; unfold bfp; rw [if_neg (by omega), if_neg (by omega)]
theorem bfp_in {z : Int} {s st j : Nat} {f : Nat → Int} (hf : ∀ i, 0 ≤ f i ∧ f i ≤ 3328) (n : Nat) : 0 ≤ bfp z s st j f n ∧ bfp z s st j f n ≤ 3328 := by
  unfold bfp
  split
  · exact mod_in _
  · split
    · exact mod_in _
    · exact hf n
theorem bfp_at1 {z : Int} {s st j : Nat} {f : Nat → Int} (h : j < s) : bfp z s st j f (st + j) = f (st + j) := by
  unfold bfp; rw [if_neg (by omega), if_neg (by omega)]
theorem bfp_at2 {z : Int} {s st j : Nat} {f : Nat → Int} : bfp z s st j f (st + j + s) = f (st + j + s) := by
  unfold bfp; rw [if_neg (by omega), if_neg (by omega)]
theorem bfp_step (z : Int) (s st j : Nat) (f : Nat → Int) (hj : j < s) : ((vec (bfp z s st j f)).set (st + j) ((f (st + j) + z * f (st + j + s)) % 3329)).set (st + j + s) ((f (st + j) - z * f (st + j + s)) % 3329) = vec (bfp z s st (j + 1) f) := by
  rw [vec_set, vec_set]
  refine vec_congr fun n _ => ?_
  by_cases h2 : n = st + j + s
  · subst h2
    rw [if_pos rfl]
    unfold bfp
    rw [if_neg (by omega), if_pos (by omega), show st + j + s - s = st + j by omega]
  · rw [if_neg h2]
    by_cases h1 : n = st + j
    · subst h1
      rw [if_pos rfl]
      unfold bfp
      rw [if_pos (by omega)]
    · rw [if_neg h1]
      unfold bfp
      by_cases a : st ≤ n ∧ n < st + j
      · rw [if_pos a, if_pos (by omega)]
      · have a' : ¬ (st ≤ n ∧ n < st + (j + 1)) := by omega
        rw [if_neg a, if_neg a']
        by_cases b : st + s ≤ n ∧ n < st + s + j
        · rw [if_pos b, if_pos (show st + s ≤ n ∧ n < st + s + (j + 1) by omega)]
        · rw [if_neg b, if_neg (show ¬ (st + s ≤ n ∧ n < st + s + (j + 1)) by omega)]
theorem bfp_swap (z : Int) (s st j : Nat) (f : Nat → Int) (hs : 1 ≤ s) (A B : Int) : ((vec (bfp z s st j f)).set (st + j + s) B).set (st + j) A = ((vec (bfp z s st j f)).set (st + j) A).set (st + j + s) B :=
  List.set_comm _ _ (by omega)

/-- A layer: the first t butterflies of m, each of s and s numbers. -/
def lay (s m : Nat) : Nat → (Nat → Int) → Nat → Int
  | 0, f => f
  | t + 1, f => bfp (zed (m + t)) s (2 * s * t) s (lay s m t f)
theorem lay_in {s m : Nat} {f : Nat → Int} (hf : ∀ i, 0 ≤ f i ∧ f i ≤ 3328) (t : Nat) : ∀ n, 0 ≤ lay s m t f n ∧ lay s m t f n ≤ 3328 := by
  induction t with
  | zero => exact hf
  | succ t ih => exact fun n => bfp_in ih n
def nttV (f : Nat → Int) : Nat → Int := lay 2 64 64 (lay 4 32 32 (lay 8 16 16 (lay 16 8 8 (lay 32 4 4 (lay 64 2 2 (lay 128 1 1 f))))))
theorem nttV_in {f : Nat → Int} (hf : ∀ i, 0 ≤ f i ∧ f i ≤ 3328) : ∀ n, 0 ≤ nttV f n ∧ nttV f n ≤ 3328 :=
  lay_in (lay_in (lay_in (lay_in (lay_in (lay_in (lay_in hf 1) 2) 4) 8) 16) 32) 64

theorem impl_Ntt_l2 (f : Nat → Int) (hf : ∀ i, 0 ≤ f i ∧ f i ≤ 3328) (z : Int) (hz : 0 ≤ z ∧ z ≤ 3328) (s st : Nat) (K : Int) (hs : 1 ≤ s) (hst : st + 2 * s ≤ 256) {r : List Int}
    (h : Ev (fun k => impl_Ntt.l1 k (vec (bfp z s st s f)) K (s : Int) ((st + 2 * s : Nat) : Int)) r) : Ev (fun k => impl_Ntt.l2 k (vec f) K (s : Int) (st : Int) z (st : Int)) r := by
  have e0 : vec f = vec (bfp z s st 0 f) := by rw [bfp_0]
  have w1 := wadd st s (by omega)
  rw [e0]
  refine Ev.up (g := fun j k => impl_Ntt.l2 k (vec (bfp z s st j f)) K (s : Int) (st : Int) z ((st + j : Nat) : Int)) s ?_ ?_ 0 (by omega)
  · intro j hj h'
    refine Ev.step (fun k => ?_) h'
    have c1 : st + j < st + s := Nat.add_lt_add_left hj _
    have c2 : st + j + s < 256 := Nat.lt_of_lt_of_le (Nat.add_lt_add_right c1 s) (Nat.le_trans (by rw [Nat.two_mul, Nat.add_assoc]; exact Nat.le_refl _) hst)
    have c3 : st + j < 256 := Nat.lt_of_le_of_lt (Nat.le_add_right _ s) c2
    have w2 := wadd (st + j) s (Nat.le_trans (Nat.le_of_lt c2) (by decide))
    have w3 : wrap64 (((st + j : Nat) : Int) + 1) = ((st + (j + 1) : Nat) : Int) := w64s (st + j) (Nat.lt_trans c3 (by decide))
    have hm := mul_bd hz (hf (st + j + s))
    have h1 := hf (st + j)
    simp only [impl_Ntt.l2]
    rw [w1]
    clear e0 w1
    rw [if_pos (Int.ofNat_lt.mpr c1), w2, if_pos (Int.natCast_nonneg _), if_pos (by rw [vec_length]; exact Int.ofNat_lt.mpr c2), if_pos (Int.natCast_nonneg _), if_pos (by rw [vec_length]; exact Int.ofNat_lt.mpr c3), vec_rd _ _ c3, vec_rd _ _ c2, bfp_at1 hj, bfp_at2, wmul_in hz (hf _), w64 (x := f (st + j) + z * f (st + j + s)) (by omega) (by omega), w64 (x := f (st + j) - z * f (st + j + s)) (by omega) (by omega), modQ_eq _ (by omega) (by omega), Option.bind_some, modQ_eq _ (by omega) (by omega), Option.bind_some, Int.toNat_natCast, Int.toNat_natCast, bfp_step z s st j f hj, w3]
  · refine Ev.step (fun k => ?_) h
    have c1 : ¬ ((st + s : Nat) : Int) < ((st + s : Nat) : Int) := Int.lt_irrefl _
    have w4 := wdbl s (by clear w1; omega)
    have w5 := wadd st (2 * s) (by clear w1 w4; omega)
    simp only [impl_Ntt.l2]
    rw [w1, if_neg c1, w4, w5]

theorem impl_Ntt_lay (s m : Nat) (hsm : 2 * s * m = 256) (hs : 1 ≤ s) (hm : 1 ≤ m) (f : Nat → Int) (hf : ∀ i, 0 ≤ f i ∧ f i ≤ 3328) (hs2 : 2 ≤ s) {r : List Int}
    (h : Ev (fun k => impl_Ntt.l0 k (vec (lay s m m f)) ((2 * m : Nat) : Int) ((s / 2 : Nat) : Int)) r) : Ev (fun k => impl_Ntt.l0 k (vec f) (m : Int) (s : Int)) r := by
  have hs128 : s ≤ 128 := by
    have : 2 * s * 1 ≤ 2 * s * m := Nat.mul_le_mul_left _ hm
    omega
  have hm128 : m ≤ 128 := by
    have : 2 * m ≤ 2 * s * m := Nat.mul_le_mul_right _ (by omega)
    omega
  refine Ev.step (f := fun k => impl_Ntt.l1 k (vec f) (m : Int) (s : Int) 0) (fun k => ?_) ?_
  · simp only [impl_Ntt.l0]
    rw [if_pos (by omega)]
  · refine Ev.up (g := fun t k => impl_Ntt.l1 k (vec (lay s m t f)) ((m + t : Nat) : Int) (s : Int) ((2 * s * t : Nat) : Int)) m ?_ ?_ 0 (by omega)
    · intro t ht h'
      have c0 : 2 * s * t + 2 * s ≤ 256 := by rw [← Nat.mul_succ, ← hsm]; exact Nat.mul_le_mul_left _ ht
      have ek : m + t < 128 := by
        have : 4 * m ≤ 2 * s * m := Nat.mul_le_mul_right _ (by omega)
        omega
      have w1 := w64s (m + t) (Nat.lt_trans ek (by decide))
      have h2 := impl_Ntt_l2 (lay s m t f) (lay_in hf t) (zed (m + t)) (zed_in _) s (2 * s * t) ((m + t + 1 : Nat) : Int) hs c0 h'
      have cond : ((2 * s * t : Nat) : Int) < 256 := by clear w1; omega
      refine Ev.step (f := fun k => (impl_Turn7.f k ((m + t : Nat) : Int)).bind fun t287 => ((impl_PowQ.f k 17 t287).bind fun t288 => (impl_Ntt.l2 k (vec (lay s m t f)) (wrap64 (((m + t : Nat) : Int) + 1)) (s : Int) ((2 * s * t : Nat) : Int) t288 ((2 * s * t : Nat) : Int)))) (fun k => ?_) ?_
      · simp only [impl_Ntt.l1]
        rw [if_pos cond]
      · rw [w1]
        exact Ev.bind (impl_Turn7_ev (m + t) ek) (Ev.bind (impl_PowQ_ev 17 (by decide) _ (Nat.le_trans (Nat.le_of_lt (t7_lt _)) (by decide))) h2)
    · refine Ev.step (fun k => ?_) h
      have w1 := whalf s (by omega)
      have c1 : ¬ ((2 * s * m : Nat) : Int) < 256 := by clear w1; omega
      simp only [impl_Ntt.l1]
      rw [if_neg c1, w1, show m + m = 2 * m by rw [Nat.two_mul]]
theorem impl_Ntt_ev (f : Nat → Int) (hf : ∀ i, 0 ≤ f i ∧ f i ≤ 3328) : Ev (fun k => impl_Ntt.f k (vec f)) (vec (nttV f)) := by
  have core : Ev (fun k => impl_Ntt.l0 k (vec f) 1 128) (vec (nttV f)) := by
    have i1 := lay_in (s := 128) (m := 1) hf 1
    have i2 := lay_in (s := 64) (m := 2) i1 2
    have i3 := lay_in (s := 32) (m := 4) i2 4
    have i4 := lay_in (s := 16) (m := 8) i3 8
    have i5 := lay_in (s := 8) (m := 16) i4 16
    have i6 := lay_in (s := 4) (m := 32) i5 32
    refine impl_Ntt_lay 128 1 (by decide) (by decide) (by decide) f hf (by decide) ?_
    refine impl_Ntt_lay 64 2 (by decide) (by decide) (by decide) _ i1 (by decide) ?_
    refine impl_Ntt_lay 32 4 (by decide) (by decide) (by decide) _ i2 (by decide) ?_
    refine impl_Ntt_lay 16 8 (by decide) (by decide) (by decide) _ i3 (by decide) ?_
    refine impl_Ntt_lay 8 16 (by decide) (by decide) (by decide) _ i4 (by decide) ?_
    refine impl_Ntt_lay 4 32 (by decide) (by decide) (by decide) _ i5 (by decide) ?_
    refine impl_Ntt_lay 2 64 (by decide) (by decide) (by decide) _ i6 (by decide) ?_
    refine Ev.step (f := fun _ => some (vec (nttV f))) (fun k => ?_) (Ev.now _)
    simp only [impl_Ntt.l0]
    rw [if_neg (by decide)]
    rfl
  unfold impl_Ntt.f
  have ok := vec_ok (f := f) fun i _ => hf i
  have ln := vec_length f
  refine Ev.bind (ok ▸ impl_PolyOk_ev (vec f) (by omega)) (Ev.pos rfl ?_)
  refine Ev.then (a := vec f) ?_ core
  unfold impl_copyInts.f
  rw [if_pos (by rw [ln]; decide), List.nil_append]

theorem spec_Ntt_l2 (f : Nat → Int) (hf : ∀ i, 0 ≤ f i ∧ f i ≤ 3328) (z : Int) (hz : 0 ≤ z ∧ z ≤ 3328) (s st : Nat) (K : Int) (hs : 1 ≤ s) (hst : st + 2 * s ≤ 256) {r : List Int}
    (h : Ev (fun k => spec_Ntt.l1 k (vec (bfp z s st s f)) K (s : Int) ((st + 2 * s : Nat) : Int)) r) : Ev (fun k => spec_Ntt.l2 k (vec f) K (s : Int) (st : Int) z (st : Int)) r := by
  have e0 : vec f = vec (bfp z s st 0 f) := by rw [bfp_0]
  have w1 := wadd st s (by omega)
  rw [e0]
  refine Ev.up (g := fun j k => spec_Ntt.l2 k (vec (bfp z s st j f)) K (s : Int) (st : Int) z ((st + j : Nat) : Int)) s ?_ ?_ 0 (by omega)
  · intro j hj h'
    refine Ev.step (fun k => ?_) h'
    have c1 : st + j < st + s := Nat.add_lt_add_left hj _
    have c2 : st + j + s < 256 := Nat.lt_of_lt_of_le (Nat.add_lt_add_right c1 s) (Nat.le_trans (by rw [Nat.two_mul, Nat.add_assoc]; exact Nat.le_refl _) hst)
    have c3 : st + j < 256 := Nat.lt_of_le_of_lt (Nat.le_add_right _ s) c2
    have w2 := wadd (st + j) s (Nat.le_trans (Nat.le_of_lt c2) (by decide))
    have w3 : wrap64 (((st + j : Nat) : Int) + 1) = ((st + (j + 1) : Nat) : Int) := w64s (st + j) (Nat.lt_trans c3 (by decide))
    have hm := mul_bd hz (hf (st + j + s))
    have h1 := hf (st + j)
    simp only [spec_Ntt.l2, Option.bind_some]
    rw [w1]
    clear e0 w1
    rw [if_pos (Int.ofNat_lt.mpr c1), w2, if_pos (Int.natCast_nonneg _), if_pos (by rw [vec_length]; exact Int.ofNat_lt.mpr c2), if_pos (Int.natCast_nonneg _), if_pos (by rw [vec_length]; exact Int.ofNat_lt.mpr c3), vec_rd _ _ c3, vec_rd _ _ c2, bfp_at1 hj, bfp_at2, sq_mod hz (hf _), Int.toNat_natCast, Int.toNat_natCast, vec_set, vec_rd _ _ c3, if_neg (show ¬ st + j = st + j + s by omega), bfp_at1 hj, ← vec_set]
    rw [show Int.tmod (wrap64 ((wrap64 (f (st + j) - z * f (st + j + s) % 3329)) + 3329)) 3329 = (f (st + j) - z * f (st + j + s)) % 3329 by
      rw [w64 (x := f (st + j) - z * f (st + j + s) % 3329) (by omega) (by omega), w64 (by omega) (by omega), Int.tmod_eq_emod_of_nonneg (by omega)]; omega]
    rw [show Int.tmod (wrap64 (f (st + j) + z * f (st + j + s) % 3329)) 3329 = (f (st + j) + z * f (st + j + s)) % 3329 by
      rw [w64 (by omega) (by omega), Int.tmod_eq_emod_of_nonneg (by omega)]; omega]
    rw [bfp_swap z s st j f hs, bfp_step z s st j f hj, w3]
  · refine Ev.step (fun k => ?_) h
    have c1 : ¬ ((st + s : Nat) : Int) < ((st + s : Nat) : Int) := Int.lt_irrefl _
    have w4 := wdbl s (by clear w1; omega)
    have w5 := wadd st (2 * s) (by clear w1 w4; omega)
    simp only [spec_Ntt.l2]
    rw [w1, if_neg c1, w4, w5]

theorem spec_Ntt_lay (s m : Nat) (hsm : 2 * s * m = 256) (hs : 1 ≤ s) (hm : 1 ≤ m) (f : Nat → Int) (hf : ∀ i, 0 ≤ f i ∧ f i ≤ 3328) (hs2 : 2 ≤ s) {r : List Int}
    (h : Ev (fun k => spec_Ntt.l0 k (vec (lay s m m f)) ((2 * m : Nat) : Int) ((s / 2 : Nat) : Int)) r) : Ev (fun k => spec_Ntt.l0 k (vec f) (m : Int) (s : Int)) r := by
  have hs128 : s ≤ 128 := by
    have : 2 * s * 1 ≤ 2 * s * m := Nat.mul_le_mul_left _ hm
    omega
  have hm128 : m ≤ 128 := by
    have : 2 * m ≤ 2 * s * m := Nat.mul_le_mul_right _ (by omega)
    omega
  refine Ev.step (f := fun k => spec_Ntt.l1 k (vec f) (m : Int) (s : Int) 0) (fun k => ?_) ?_
  · simp only [spec_Ntt.l0]
    rw [if_pos (by omega)]
  · refine Ev.up (g := fun t k => spec_Ntt.l1 k (vec (lay s m t f)) ((m + t : Nat) : Int) (s : Int) ((2 * s * t : Nat) : Int)) m ?_ ?_ 0 (by omega)
    · intro t ht h'
      have c0 : 2 * s * t + 2 * s ≤ 256 := by rw [← Nat.mul_succ, ← hsm]; exact Nat.mul_le_mul_left _ ht
      have ek : m + t < 128 := by
        have : 4 * m ≤ 2 * s * m := Nat.mul_le_mul_right _ (by omega)
        omega
      have w1 := w64s (m + t) (Nat.lt_trans ek (by decide))
      have h2 := spec_Ntt_l2 (lay s m t f) (lay_in hf t) (zed (m + t)) (zed_in _) s (2 * s * t) ((m + t + 1 : Nat) : Int) hs c0 h'
      have cond : ((2 * s * t : Nat) : Int) < 256 := by clear w1; omega
      refine Ev.step (f := fun k => (spec_Turn7.f k ((m + t : Nat) : Int)).bind fun t287 => ((spec_PowQ.f k 17 t287).bind fun t288 => (spec_Ntt.l2 k (vec (lay s m t f)) (wrap64 (((m + t : Nat) : Int) + 1)) (s : Int) ((2 * s * t : Nat) : Int) t288 ((2 * s * t : Nat) : Int)))) (fun k => ?_) ?_
      · simp only [spec_Ntt.l1]
        rw [if_pos cond]
      · rw [w1]
        exact Ev.bind (spec_Turn7_ev (m + t) ek) (Ev.bind (spec_PowQ_ev 17 (by decide) _ (Nat.le_trans (Nat.le_of_lt (t7_lt _)) (by decide))) h2)
    · refine Ev.step (fun k => ?_) h
      have w1 := whalf s (by omega)
      have c1 : ¬ ((2 * s * m : Nat) : Int) < 256 := by clear w1; omega
      simp only [spec_Ntt.l1]
      rw [if_neg c1, w1, show m + m = 2 * m by rw [Nat.two_mul]]
theorem spec_Ntt_ev (f : Nat → Int) (hf : ∀ i, 0 ≤ f i ∧ f i ≤ 3328) : Ev (fun k => spec_Ntt.f k (vec f)) (vec (nttV f)) := by
  have core : Ev (fun k => spec_Ntt.l0 k (vec f) 1 128) (vec (nttV f)) := by
    have i1 := lay_in (s := 128) (m := 1) hf 1
    have i2 := lay_in (s := 64) (m := 2) i1 2
    have i3 := lay_in (s := 32) (m := 4) i2 4
    have i4 := lay_in (s := 16) (m := 8) i3 8
    have i5 := lay_in (s := 8) (m := 16) i4 16
    have i6 := lay_in (s := 4) (m := 32) i5 32
    refine spec_Ntt_lay 128 1 (by decide) (by decide) (by decide) f hf (by decide) ?_
    refine spec_Ntt_lay 64 2 (by decide) (by decide) (by decide) _ i1 (by decide) ?_
    refine spec_Ntt_lay 32 4 (by decide) (by decide) (by decide) _ i2 (by decide) ?_
    refine spec_Ntt_lay 16 8 (by decide) (by decide) (by decide) _ i3 (by decide) ?_
    refine spec_Ntt_lay 8 16 (by decide) (by decide) (by decide) _ i4 (by decide) ?_
    refine spec_Ntt_lay 4 32 (by decide) (by decide) (by decide) _ i5 (by decide) ?_
    refine spec_Ntt_lay 2 64 (by decide) (by decide) (by decide) _ i6 (by decide) ?_
    refine Ev.step (f := fun _ => some (vec (nttV f))) (fun k => ?_) (Ev.now _)
    simp only [spec_Ntt.l0]
    rw [if_neg (by decide)]
    rfl
  unfold spec_Ntt.f
  have ok := vec_ok (f := f) fun i _ => hf i
  have ln := vec_length f
  refine Ev.bind (ok ▸ spec_PolyOk_ev (vec f)) (Ev.pos rfl ?_)
  simp only [Option.bind_some]
  refine Ev.pos (by rw [ln]; decide) ?_
  rw [List.nil_append]
  exact core
end Go.Proofs.Ytcpgpjggnghpdaa.Pure
