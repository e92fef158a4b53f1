/- The law on Stretch: for all arguments the program and the reference answer the same number. -/
import Derived.Test.YtmnnklealendcaaMA
import Derived.Test.YtmnnklealendcaaMS
import Derived.Test.YtmnnklealendcaaPx2
namespace Go.Proofs.Ytmnnklealendcaa.Pure
open Go.RowKit Go.Proofs.YtmnnklealendcaaW.PrintWords Go.Proofs.YtmnnklealendcaaW.PrintLast Go.Proofs.YtmnnklealendcaaW.PrintMore Go.Proofs.Ytmnnklealendcaa.P

theorem FnExactStretch : laws_FnExactStretch.Pure := by
  intro x d _ _
  refine Ev.rounds ?_
  unfold laws_FnExactStretch.f
  exact Ev.bind (spec_Stretch_ev x d) (Ev.then (impl_Stretch_eq x d) (Ev.pos rfl (Ev.now _)))
end Go.Proofs.Ytmnnklealendcaa.Pure
