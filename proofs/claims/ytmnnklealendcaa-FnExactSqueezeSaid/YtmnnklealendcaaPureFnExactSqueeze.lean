/- The law on Squeeze: for all arguments the program and the reference answer the same number. -/
import Derived.Test.YtmnnklealendcaaMA
import Derived.Test.YtmnnklealendcaaMS
import Derived.Test.YtmnnklealendcaaPx1
namespace Go.Proofs.Ytmnnklealendcaa.Pure
open Go.RowKit Go.Proofs.YtmnnklealendcaaW.PrintWords Go.Proofs.YtmnnklealendcaaW.PrintLast Go.Proofs.YtmnnklealendcaaW.PrintMore Go.Proofs.Ytmnnklealendcaa.P

theorem FnExactSqueeze : laws_FnExactSqueeze.Pure := by
  intro x d _ _
  refine Ev.rounds ?_
  unfold laws_FnExactSqueeze.f
  exact Ev.bind (spec_Squeeze_ev x d) (Ev.then (impl_Squeeze_eq x d) (Ev.pos rfl (Ev.now _)))
end Go.Proofs.Ytmnnklealendcaa.Pure
