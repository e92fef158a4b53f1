/- The law on PolyBytes: for every list of numbers the program and the reference answer the same text, and the list stays. -/
import Derived.Test.YtmnnklealendcaaMA
import Derived.Test.YtmnnklealendcaaMF
import Derived.Test.YtmnnklealendcaaPx16
namespace Go.Proofs.Ytmnnklealendcaa.Pure
open Go.RowKit Go.Proofs.YtmnnklealendcaaW.PrintWords Go.Proofs.YtmnnklealendcaaW.PrintLast Go.Proofs.YtmnnklealendcaaW.PrintMore Go.Proofs.Ytmnnklealendcaa.P

theorem FnExactPolyBytes : laws_FnExactPolyBytes.Pure := by
  intro l _ _ _
  refine Ev.rounds ?_
  unfold laws_FnExactPolyBytes.f
  by_cases h : (l.length : Int) > 1048576
  · exact Ev.pos h (Ev.now _)
  · refine Ev.neg h (Ev.bind (toIntS_ev l (by omega)) (Ev.bind (spec_PolyBytes_ev l) (Ev.bind (toIntS_ev l (by omega)) (Ev.bind (impl_PolyBytes_ev l (by omega)) (Ev.pos rfl ?_)))))
    exact Ev.bind (toIntS_ev l (by omega)) (Ev.bind (eqIntS_refl l (by omega)) (Ev.pos rfl (Ev.now _)))
end Go.Proofs.Ytmnnklealendcaa.Pure
