/- The law on transforms, over drawn polynomials: there and back, back and there, and products by transforms. -/
import Derived.Test.YtcpgpjggnghpdaaMJP
import Derived.Test.YtcpgpjggnghpdaaMP3
import Derived.Test.YtcpgpjggnghpdaaMP8
import Derived.Test.YtcpgpjggnghpdaaMVA
import Derived.Test.YtcpgpjggnghpdaaPx1
import Derived.Test.YtcpgpjggnghpdaaPx8
import Derived.Test.YtcpgpjggnghpdaaPx35
namespace Go.Proofs.Ytcpgpjggnghpdaa.Pure
open Go.RowKit Go.Proofs.YtcpgpjggnghpdaaW.PrintWords Go.Proofs.YtcpgpjggnghpdaaW.PrintLast Go.Proofs.YtcpgpjggnghpdaaW.PrintMore Go.Proofs.Ytcpgpjggnghpdaa.P

theorem lay_congr256 {s m : Nat} (hsm : 2 * s * m = 256) {f g : Nat → Int} (H : ∀ n, n < 256 → f n = g n) (t : Nat) (ht : t ≤ m) : ∀ n, n < 256 → layI s m t f n = layI s m t g n := by
  induction t with
  | zero => exact H
  | succ t ih =>
    intro n hn
    have hb := blk_le s t m (by omega)
    have h := ih (by omega)
    simp only [layI]
    unfold bfi
    by_cases h1 : 2 * s * t ≤ n ∧ n < 2 * s * t + s
    · rw [if_pos h1, if_pos h1, h n hn, h (n + s) (by omega)]
    · rw [if_neg h1, if_neg h1]
      by_cases h2 : 2 * s * t + s ≤ n ∧ n < 2 * s * t + s + s
      · rw [if_pos h2, if_pos h2, h n hn, h (n - s) (by omega)]
      · rw [if_neg h2, if_neg h2, h n hn]
theorem invV_congr {f g : Nat → Int} (H : ∀ n, n < 256 → f n = g n) (n : Nat) (hn : n < 256) : invV f n = invV g n := by
  have h1 := lay_congr256 (s := 2) (m := 64) (by decide) H 64 (by decide)
  have h2 := lay_congr256 (s := 4) (m := 32) (by decide) h1 32 (by decide)
  have h3 := lay_congr256 (s := 8) (m := 16) (by decide) h2 16 (by decide)
  have h4 := lay_congr256 (s := 16) (m := 8) (by decide) h3 8 (by decide)
  have h5 := lay_congr256 (s := 32) (m := 4) (by decide) h4 4 (by decide)
  have h6 := lay_congr256 (s := 64) (m := 2) (by decide) h5 2 (by decide)
  have h7 := lay_congr256 (s := 128) (m := 1) (by decide) h6 1 (by decide) n hn
  unfold invV
  rw [h7]
theorem FnTransforms : laws_FnTransforms.Pure := by
  intro l _ _ _
  refine Ev.rounds ?_
  unfold laws_FnTransforms.f laws_big.f
  simp only [Option.bind_some]
  by_cases h : (l.length : Int) > 1048576
  · exact Ev.pos (decide_eq_true h) (Ev.now _)
  refine Ev.neg (by rw [decide_eq_false h]; decide) ?_
  obtain ⟨a, b, c, ed, ha, hb, hc⟩ := polys_some l (by omega)
  have na := nttV_in ha
  have nb := nttV_in hb
  have okl : Ev (fun k => impl_PolyOk.f k (vec (nttV a))) true := by
    have := impl_PolyOk_ev (vec (nttV a)) (by rw [vec_length]; omega)
    rwa [vec_ok fun i _ => na i] at this
  have mm := mulNttV_in (nttV a) (nttV b)
  refine Ev.bind ed (Ev.bind (impl_Ntt_ev a ha) (Ev.bind (impl_Ntt_ev b hb) (Ev.bind okl (Ev.pos rfl (Ev.bind (impl_InvNtt_ev _ na) (Ev.bind (sameInts_vec fun i hi => inv_ntt ha i hi) (Ev.pos rfl (Ev.bind (impl_InvNtt_ev a ha) (Ev.bind (impl_Ntt_ev _ (invV_in a)) (Ev.bind (sameInts_vec fun i hi => ntt_inv ha i hi) (Ev.pos rfl ?_)))))))))))
  refine Ev.bind (impl_MulNtt_ev _ _ na nb) (Ev.bind (impl_InvNtt_ev _ mm) (Ev.bind (impl_PolyMul_ev a b ha hb) (Ev.bind (sameInts_vec fun i hi => ?_) (Ev.now _))))
  rw [invV_congr (g := nttV (mulV a b)) (fun n hn => ntt_mul n hn) i hi]
  exact inv_ntt (fun i => mulV_in a b i) i hi
end Go.Proofs.Ytcpgpjggnghpdaa.Pure
