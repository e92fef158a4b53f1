/- The law on HyperIndex: for every signature of trees of trees the program and the reference answer the same index, and the signature stays. -/
import Derived.Test.YtcpgpjggnghpdaaML2
import Derived.Test.YtcpgpjggnghpdaaPx58
namespace Go.Proofs.Ytcpgpjggnghpdaa.Pure
open Go.RowKit Go.Proofs.YtcpgpjggnghpdaaW.PrintWords Go.Proofs.YtcpgpjggnghpdaaW.PrintLast Go.Proofs.YtcpgpjggnghpdaaW.PrintMore Go.Proofs.Ytcpgpjggnghpdaa.P

theorem FnExactHyperIndex (x : Int) (a b : List ByteArray) (s : ByteArray) (y : Int) (c d : List ByteArray) (_ : (Lit.int .i64 x).wf = true) (ha : a.length ≤ 9223372036854775807) (hsa : ∀ s ∈ a, s.size ≤ 9223372036854775807) (hb : b.length ≤ 9223372036854775807) (hsb : ∀ s ∈ b, s.size ≤ 9223372036854775807)
    (hs : s.size ≤ maxLen) (_ : (Lit.int .i64 y).wf = true) (hc : c.length ≤ 9223372036854775807) (hsc : ∀ s ∈ c, s.size ≤ 9223372036854775807) (hd : d.length ≤ 9223372036854775807) (hsd : ∀ s ∈ d, s.size ≤ 9223372036854775807) :
    ∃ k, laws_FnExactHyperIndex.f k x a b s y c d = some true := by
  refine Ev.rounds ?_
  unfold laws_FnExactHyperIndex.f
  have hs' : s.size ≤ 9223372036854775807 := by unfold maxLen at hs; omega
  obtain ⟨r, hr, hp⟩ := szHyper_ev x a b s y c d ha hb hsa hsb hs' hc hd hsc hsd
  rcases hp with hp | ⟨p0, pa, pb, _, pc, pd⟩
  · exact Ev.bind hr (Ev.pos hp (Ev.now _))
  · have t := toHyper_ev x a b s y c d (by omega) (by omega) (by omega) (by omega)
    have p0' : ¬ r < 0 := by omega
    exact Ev.bind hr (Ev.neg p0' (Ev.bind t (Ev.bind (spec_HyperIndex_ev x a b s y c d) (Ev.bind t (Ev.bind (impl_HyperIndex_ev x a b s y c d (by omega) (by omega) (by omega) (by omega)) (Ev.pos rfl (Ev.bind t (Ev.bind (eqHyper_refl x a b s y c d (by omega) (by omega) (by omega) (by omega)) (Ev.pos rfl (Ev.now _))))))))))
end Go.Proofs.Ytcpgpjggnghpdaa.Pure
