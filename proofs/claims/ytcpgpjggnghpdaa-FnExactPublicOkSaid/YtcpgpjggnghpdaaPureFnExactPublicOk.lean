/- The law on PublicOk: for every text the program and the reference answer the same bool. -/
import Derived.Test.YtcpgpjggnghpdaaMF3
import Derived.Test.YtcpgpjggnghpdaaPx27
namespace Go.Proofs.Ytcpgpjggnghpdaa.Pure
open Go.RowKit Go.Proofs.YtcpgpjggnghpdaaW.PrintWords Go.Proofs.YtcpgpjggnghpdaaW.PrintLast Go.Proofs.YtcpgpjggnghpdaaW.PrintMore Go.Proofs.Ytcpgpjggnghpdaa.P

theorem FnExactPublicOk : laws_FnExactPublicOk.Pure := by
  intro s _
  refine Ev.rounds ?_
  unfold laws_FnExactPublicOk.f
  by_cases h : (s.size : Int) > 1048576
  · exact Ev.pos h (Ev.now _)
  · refine Ev.neg h (Ev.bind (spec_PublicOk_ev s) (Ev.bind (impl_PublicOk_ev s) (Ev.neg (by simp) (Ev.now _))))
end Go.Proofs.Ytcpgpjggnghpdaa.Pure
