/- The transform InvNtt, of the program: one butterfly row. -/
import Derived.Test.YtcpgpjggnghpdaaMP3
import Derived.Test.YtcpgpjggnghpdaaPx32
namespace Go.Proofs.Ytcpgpjggnghpdaa.Pure
open Go.RowKit Go.Proofs.YtcpgpjggnghpdaaW.PrintWords Go.Proofs.YtcpgpjggnghpdaaW.PrintLast Go.Proofs.YtcpgpjggnghpdaaW.PrintMore Go.Proofs.Ytcpgpjggnghpdaa.P

theorem mul_bd2 {z x y : Int} (hz : 0 ≤ z ∧ z ≤ 3328) (hx : 0 ≤ x ∧ x ≤ 3328) (hy : 0 ≤ y ∧ y ≤ 3328) : -11075584 ≤ z * (y - x) ∧ z * (y - x) ≤ 11075584 := by
  have h1 := mul_bd hz hx
  have h2 := mul_bd hz hy
  rw [Int.mul_sub]
  omega
theorem impl_InvNtt_l2 (f : Nat → Int) (hf : ∀ i, 0 ≤ f i ∧ f i ≤ 3328) (z : Int) (hz : 0 ≤ z ∧ z ≤ 3328) (s st : Nat) (K : Int) (hs : 1 ≤ s) (hst : st + 2 * s ≤ 256) {r : List Int}
    (h : Ev (fun k => impl_InvNtt.l1 k (vec (bfi z s st s f)) K (s : Int) ((st + 2 * s : Nat) : Int)) r) : Ev (fun k => impl_InvNtt.l2 k (vec f) K (s : Int) (st : Int) z (st : Int)) r := by
  have e0 : vec f = vec (bfi z s st 0 f) := by rw [bfi_0]
  have w1 := wadd st s (by omega)
  rw [e0]
  refine Ev.up (g := fun j k => impl_InvNtt.l2 k (vec (bfi z s st j f)) K (s : Int) (st : Int) z ((st + j : Nat) : Int)) s ?_ ?_ 0 (by omega)
  · intro j hj h'
    refine Ev.step (fun k => ?_) h'
    have c1 : st + j < st + s := Nat.add_lt_add_left hj _
    have c2 : st + j + s < 256 := Nat.lt_of_lt_of_le (Nat.add_lt_add_right c1 s) (Nat.le_trans (by rw [Nat.two_mul, Nat.add_assoc]; exact Nat.le_refl _) hst)
    have c3 : st + j < 256 := Nat.lt_of_le_of_lt (Nat.le_add_right _ s) c2
    have w2 := wadd (st + j) s (Nat.le_trans (Nat.le_of_lt c2) (by decide))
    have w3 : wrap64 (((st + j : Nat) : Int) + 1) = ((st + (j + 1) : Nat) : Int) := w64s (st + j) (Nat.lt_trans c3 (by decide))
    have h1 := hf (st + j)
    have h2 := hf (st + j + s)
    have hm := mul_bd2 hz h1 h2
    simp only [impl_InvNtt.l2]
    rw [w1]
    clear e0 w1
    rw [if_pos (Int.ofNat_lt.mpr c1), w2, if_pos (Int.natCast_nonneg _), if_pos (by rw [vec_length]; exact Int.ofNat_lt.mpr c3), if_pos (Int.natCast_nonneg _), if_pos (by rw [vec_length]; exact Int.ofNat_lt.mpr c2), vec_rd _ _ c3, vec_rd _ _ c2, bfi_at1 hj, bfi_at2, w64 (x := f (st + j) + f (st + j + s)) (by omega) (by omega), w64 (x := f (st + j + s) - f (st + j)) (by omega) (by omega), w64 (x := z * (f (st + j + s) - f (st + j))) (by omega) (by omega), modQ_eq _ (by omega) (by omega), Option.bind_some, modQ_eq _ (by omega) (by omega), Option.bind_some, Int.toNat_natCast, Int.toNat_natCast, bfi_step z s st j f hj, w3]
  · refine Ev.step (fun k => ?_) h
    have c1 : ¬ ((st + s : Nat) : Int) < ((st + s : Nat) : Int) := Int.lt_irrefl _
    have w4 := wdbl s (by clear w1; omega)
    have w5 := wadd st (2 * s) (by clear w1 w4; omega)
    simp only [impl_InvNtt.l2]
    rw [w1, if_neg c1, w4, w5]

end Go.Proofs.Ytcpgpjggnghpdaa.Pure
