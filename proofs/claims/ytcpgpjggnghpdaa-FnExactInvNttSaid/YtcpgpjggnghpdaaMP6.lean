/- The transform InvNtt, of the reference: one butterfly row, one layer. -/
import Derived.Test.YtcpgpjggnghpdaaMP5
import Derived.Test.YtcpgpjggnghpdaaPx36
import Derived.Test.YtcpgpjggnghpdaaPx37
import Derived.Test.YtcpgpjggnghpdaaPx77
namespace Go.Proofs.Ytcpgpjggnghpdaa.Pure
open Go.RowKit Go.Proofs.YtcpgpjggnghpdaaW.PrintWords Go.Proofs.YtcpgpjggnghpdaaW.PrintLast Go.Proofs.YtcpgpjggnghpdaaW.PrintMore Go.Proofs.Ytcpgpjggnghpdaa.P

theorem spec_back {z x y : Int} (hz : 0 ≤ z ∧ z ≤ 3328) (hx : 0 ≤ x ∧ x ≤ 3328) (hy : 0 ≤ y ∧ y ≤ 3328) : Int.tmod (wrap64 (z * (wrap64 ((wrap64 (y - x)) + 3329)))) 3329 = z * (y - x) % 3329 := by
  have h0 := mul_bd2 hz hx hy
  have e : z * (y - x + 3329) = z * (y - x) + 3329 * z := by rw [Int.mul_add, Int.mul_comm z 3329]
  have hn : 0 ≤ z * (y - x + 3329) := Int.mul_nonneg hz.1 (by omega)
  rw [w64 (x := y - x) (by omega) (by omega), w64 (x := y - x + 3329) (by omega) (by omega), w64 (x := z * (y - x + 3329)) (by omega) (by omega), Int.tmod_eq_emod_of_nonneg hn, e]
  omega
theorem spec_InvNtt_l2 (f : Nat → Int) (hf : ∀ i, 0 ≤ f i ∧ f i ≤ 3328) (z : Int) (hz : 0 ≤ z ∧ z ≤ 3328) (s st : Nat) (K : Int) (hs : 1 ≤ s) (hst : st + 2 * s ≤ 256) {r : List Int}
    (h : Ev (fun k => spec_InvNtt.l1 k (vec (bfi z s st s f)) K (s : Int) ((st + 2 * s : Nat) : Int)) r) : Ev (fun k => spec_InvNtt.l2 k (vec f) K (s : Int) (st : Int) z (st : Int)) r := by
  have e0 : vec f = vec (bfi z s st 0 f) := by rw [bfi_0]
  have w1 := wadd st s (by omega)
  rw [e0]
  refine Ev.up (g := fun j k => spec_InvNtt.l2 k (vec (bfi z s st j f)) K (s : Int) (st : Int) z ((st + j : Nat) : Int)) s ?_ ?_ 0 (by omega)
  · intro j hj h'
    refine Ev.step (fun k => ?_) h'
    have c1 : st + j < st + s := Nat.add_lt_add_left hj _
    have c2 : st + j + s < 256 := Nat.lt_of_lt_of_le (Nat.add_lt_add_right c1 s) (Nat.le_trans (by rw [Nat.two_mul, Nat.add_assoc]; exact Nat.le_refl _) hst)
    have c3 : st + j < 256 := Nat.lt_of_le_of_lt (Nat.le_add_right _ s) c2
    have w2 := wadd (st + j) s (Nat.le_trans (Nat.le_of_lt c2) (by decide))
    have w3 : wrap64 (((st + j : Nat) : Int) + 1) = ((st + (j + 1) : Nat) : Int) := w64s (st + j) (Nat.lt_trans c3 (by decide))
    have h1 := hf (st + j)
    have h2 := hf (st + j + s)
    have hm := mul_bd2 hz h1 h2
    have nj : ¬ st + j + s = st + j := by clear e0 w1 w2; omega
    have ey : ∀ v : Int, rd ((vec (bfi z s st j f)).set (st + j) v) ((st + j + s : Nat) : Int) = f (st + j + s) := by
      intro v
      rw [vec_set, vec_rd _ _ c2, if_neg nj, bfi_at2]
    have em := spec_back hz h1 h2
    simp only [spec_InvNtt.l2, Option.bind_some]
    rw [w1]
    clear e0 w1
    rw [if_pos (Int.ofNat_lt.mpr c1), w2, if_pos (Int.natCast_nonneg _), if_pos (by rw [vec_length]; exact Int.ofNat_lt.mpr c3), if_pos (Int.natCast_nonneg _), if_pos (by rw [vec_length]; exact Int.ofNat_lt.mpr c2), Int.toNat_natCast, Int.toNat_natCast, ey, vec_rd _ _ c3, bfi_at1 hj, vec_rd _ _ c2, bfi_at2, em, w64 (x := f (st + j) + f (st + j + s)) (by omega) (by omega), Int.tmod_eq_emod_of_nonneg (show 0 ≤ f (st + j) + f (st + j + s) by omega), bfi_step z s st j f hj, w3]
  · refine Ev.step (fun k => ?_) h
    have c1 : ¬ ((st + s : Nat) : Int) < ((st + s : Nat) : Int) := Int.lt_irrefl _
    have w4 := wdbl s (by clear w1; omega)
    have w5 := wadd st (2 * s) (by clear w1 w4; omega)
    simp only [spec_InvNtt.l2]
    rw [w1, if_neg c1, w4, w5]

theorem spec_InvNtt_lay (s m : Nat) (hsm : 2 * s * m = 256) (hs : 2 ≤ s) (hm : 1 ≤ m) (f : Nat → Int) (hf : ∀ i, 0 ≤ f i ∧ f i ≤ 3328) {r : List Int}
    (h : Ev (fun k => spec_InvNtt.l0 k (vec (layI s m m f)) ((2 * m - 1 - m : Nat) : Int) ((s * 2 : Nat) : Int)) r) : Ev (fun k => spec_InvNtt.l0 k (vec f) ((2 * m - 1 : Nat) : Int) (s : Int)) r := by
  have hs128 : s ≤ 128 := by
    have : 2 * s * 1 ≤ 2 * s * m := Nat.mul_le_mul_left _ hm
    omega
  have hm64 : 2 * m ≤ 128 := by
    have : 4 * m ≤ 2 * s * m := Nat.mul_le_mul_right _ (by omega)
    omega
  refine Ev.step (f := fun k => spec_InvNtt.l1 k (vec f) ((2 * m - 1 : Nat) : Int) (s : Int) 0) (fun k => ?_) ?_
  · simp only [spec_InvNtt.l0]
    rw [if_pos (by omega)]
  · refine Ev.up (g := fun t k => spec_InvNtt.l1 k (vec (layI s m t f)) ((2 * m - 1 - t : Nat) : Int) (s : Int) ((2 * s * t : Nat) : Int)) m ?_ ?_ 0 (by omega)
    · intro t ht h'
      have c0 : 2 * s * t + 2 * s ≤ 256 := by rw [← Nat.mul_succ, ← hsm]; exact Nat.mul_le_mul_left _ ht
      have ek : 2 * m - 1 - t < 128 := by omega
      have w1 := wpred (2 * m - 1 - t) (by omega) (by omega)
      have e1 : 2 * m - 1 - t - 1 = 2 * m - 1 - (t + 1) := by clear w1; omega
      rw [e1] at w1
      have h2 := spec_InvNtt_l2 (layI s m t f) (layI_in hf t) (zed (2 * m - 1 - t)) (zed_in _) s (2 * s * t) ((2 * m - 1 - (t + 1) : Nat) : Int) (Nat.le_trans (by decide) hs) c0 h'
      have cond : ((2 * s * t : Nat) : Int) < 256 := by clear w1; omega
      refine Ev.step (f := fun k => (spec_Turn7.f k ((2 * m - 1 - t : Nat) : Int)).bind fun t300 => ((spec_PowQ.f k 17 t300).bind fun t301 => (spec_InvNtt.l2 k (vec (layI s m t f)) (wrap64 (((2 * m - 1 - t : Nat) : Int) - 1)) (s : Int) ((2 * s * t : Nat) : Int) t301 ((2 * s * t : Nat) : Int)))) (fun k => ?_) ?_
      · simp only [spec_InvNtt.l1]
        rw [if_pos cond]
      · rw [w1]
        exact Ev.bind (spec_Turn7_ev _ ek) (Ev.bind (spec_PowQ_ev 17 (by decide) _ (Nat.le_trans (Nat.le_of_lt (t7_lt _)) (by decide))) h2)
    · refine Ev.step (fun k => ?_) h
      have w1 := wtwice s (by omega)
      have c1 : ¬ ((2 * s * m : Nat) : Int) < 256 := by clear w1; omega
      simp only [spec_InvNtt.l1]
      rw [if_neg c1, w1]
end Go.Proofs.Ytcpgpjggnghpdaa.Pure
