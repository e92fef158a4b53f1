/- The transform InvNtt, of the program: one layer. -/
import Derived.Test.YtcpgpjggnghpdaaMP4
import Derived.Test.YtcpgpjggnghpdaaPx29
import Derived.Test.YtcpgpjggnghpdaaPx30
import Derived.Test.YtcpgpjggnghpdaaPx32
namespace Go.Proofs.Ytcpgpjggnghpdaa.Pure
open Go.RowKit Go.Proofs.YtcpgpjggnghpdaaW.PrintWords Go.Proofs.YtcpgpjggnghpdaaW.PrintLast Go.Proofs.YtcpgpjggnghpdaaW.PrintMore Go.Proofs.Ytcpgpjggnghpdaa.P

theorem wpred (a : Nat) (h1 : 1 ≤ a) (h : a ≤ 100000) : wrap64 ((a : Int) - 1) = ((a - 1 : Nat) : Int) := by rw [w64 (by omega) (by omega)]; omega
theorem wtwice (a : Nat) (h : a ≤ 100000) : wrap64 ((a : Int) * 2) = ((a * 2 : Nat) : Int) := by rw [w64 (by omega) (by omega)]; omega
theorem impl_InvNtt_lay (s m : Nat) (hsm : 2 * s * m = 256) (hs : 2 ≤ s) (hm : 1 ≤ m) (f : Nat → Int) (hf : ∀ i, 0 ≤ f i ∧ f i ≤ 3328) {r : List Int}
    (h : Ev (fun k => impl_InvNtt.l0 k (vec (layI s m m f)) ((2 * m - 1 - m : Nat) : Int) ((s * 2 : Nat) : Int)) r) : Ev (fun k => impl_InvNtt.l0 k (vec f) ((2 * m - 1 : Nat) : Int) (s : Int)) r := by
  have hs128 : s ≤ 128 := by
    have : 2 * s * 1 ≤ 2 * s * m := Nat.mul_le_mul_left _ hm
    omega
  have hm64 : 2 * m ≤ 128 := by
    have : 4 * m ≤ 2 * s * m := Nat.mul_le_mul_right _ (by omega)
    omega
  refine Ev.step (f := fun k => impl_InvNtt.l1 k (vec f) ((2 * m - 1 : Nat) : Int) (s : Int) 0) (fun k => ?_) ?_
  · simp only [impl_InvNtt.l0]
    rw [if_pos (by omega)]
  · refine Ev.up (g := fun t k => impl_InvNtt.l1 k (vec (layI s m t f)) ((2 * m - 1 - t : Nat) : Int) (s : Int) ((2 * s * t : Nat) : Int)) m ?_ ?_ 0 (by omega)
    · intro t ht h'
      have c0 : 2 * s * t + 2 * s ≤ 256 := by rw [← Nat.mul_succ, ← hsm]; exact Nat.mul_le_mul_left _ ht
      have ek : 2 * m - 1 - t < 128 := by omega
      have w1 := wpred (2 * m - 1 - t) (by omega) (by omega)
      have e1 : 2 * m - 1 - t - 1 = 2 * m - 1 - (t + 1) := by clear w1; omega
      rw [e1] at w1
      have h2 := impl_InvNtt_l2 (layI s m t f) (layI_in hf t) (zed (2 * m - 1 - t)) (zed_in _) s (2 * s * t) ((2 * m - 1 - (t + 1) : Nat) : Int) (Nat.le_trans (by decide) hs) c0 h'
      have cond : ((2 * s * t : Nat) : Int) < 256 := by clear w1; omega
      refine Ev.step (f := fun k => (impl_Turn7.f k ((2 * m - 1 - t : Nat) : Int)).bind fun t300 => ((impl_PowQ.f k 17 t300).bind fun t301 => (impl_InvNtt.l2 k (vec (layI s m t f)) (wrap64 (((2 * m - 1 - t : Nat) : Int) - 1)) (s : Int) ((2 * s * t : Nat) : Int) t301 ((2 * s * t : Nat) : Int)))) (fun k => ?_) ?_
      · simp only [impl_InvNtt.l1]
        rw [if_pos cond]
      · rw [w1]
        exact Ev.bind (impl_Turn7_ev _ ek) (Ev.bind (impl_PowQ_ev 17 (by decide) _ (Nat.le_trans (Nat.le_of_lt (t7_lt _)) (by decide))) h2)
    · refine Ev.step (fun k => ?_) h
      have w1 := wtwice s (by omega)
      have c1 : ¬ ((2 * s * m : Nat) : Int) < 256 := by clear w1; omega
      simp only [impl_InvNtt.l1]
      rw [if_neg c1, w1]
end Go.Proofs.Ytcpgpjggnghpdaa.Pure
