/- The law on HyperText: for every signature of trees of trees the program and the reference write the same text and answer the same bool, and the signature stays. -/
import Derived.Test.YtcpgpjggnghpdaaML2
import Derived.Test.YtcpgpjggnghpdaaPx51
import Derived.Test.YtcpgpjggnghpdaaPx57
import Derived.Test.YtcpgpjggnghpdaaPx85
namespace Go.Proofs.Ytcpgpjggnghpdaa.Pure
open Go.RowKit Go.Proofs.YtcpgpjggnghpdaaW.PrintWords Go.Proofs.YtcpgpjggnghpdaaW.PrintLast Go.Proofs.YtcpgpjggnghpdaaW.PrintMore Go.Proofs.Ytcpgpjggnghpdaa.P

theorem FnExactHyperText (x : Int) (a b : List ByteArray) (s : ByteArray) (y : Int) (c d : List ByteArray) (hx : (Lit.int .i64 x).wf = true) (ha : a.length ≤ 9223372036854775807) (hsa : ∀ s ∈ a, s.size ≤ 9223372036854775807) (hb : b.length ≤ 9223372036854775807) (hsb : ∀ s ∈ b, s.size ≤ 9223372036854775807)
    (hs : s.size ≤ maxLen) (hy : (Lit.int .i64 y).wf = true) (hc : c.length ≤ 9223372036854775807) (hsc : ∀ s ∈ c, s.size ≤ 9223372036854775807) (hd : d.length ≤ 9223372036854775807) (hsd : ∀ s ∈ d, s.size ≤ 9223372036854775807) :
    ∃ k, laws_FnExactHyperText.f k x a b s y c d = some true := by
  refine Ev.rounds ?_
  unfold laws_FnExactHyperText.f
  have hx' := wf_i64 hx
  have hy' := wf_i64 hy
  have hs' : s.size ≤ 9223372036854775807 := by unfold maxLen at hs; omega
  obtain ⟨r, hr, hp⟩ := szHyper_ev x a b s y c d ha hb hsa hsb hs' hc hd hsc hsd
  rcases hp with hp | ⟨p0, pa, pb, _, pc, pd⟩
  · exact Ev.bind hr (Ev.pos hp (Ev.now _))
  · have t := toHyper_ev x a b s y c d (by omega) (by omega) (by omega) (by omega)
    have p0' : ¬ r < 0 := by omega
    refine Ev.bind hr (Ev.neg p0' (Ev.bind t (Ev.bind (spec_HyperText_ev x a b s y c d hx'.1 hx'.2 hy'.1 hy'.2) (Ev.bind t (Ev.bind (impl_HyperText_ev x a b s y c d (by omega) (by omega) (by omega) (by omega)) (Ev.pos rfl ?_))))))
    refine Ev.step (f := fun k => (laws_toHyper.f k x a b s y c d).bind fun bt935 => ((laws_eqHyper.f k x a b s y c d bt935.1 bt935.2.1 bt935.2.2.1 bt935.2.2.2.1 bt935.2.2.2.2.1 bt935.2.2.2.2.2.1 bt935.2.2.2.2.2.2).bind fun t950 => (if t950 = true then (some true) else (some false)))) (fun k => ?_) ?_
    · simp only [laws_FnExactHyperText.j0]
      rw [if_neg (by simp)]
    · exact Ev.bind t (Ev.bind (eqHyper_refl x a b s y c d (by omega) (by omega) (by omega) (by omega)) (Ev.pos rfl (Ev.now _)))
end Go.Proofs.Ytcpgpjggnghpdaa.Pure
