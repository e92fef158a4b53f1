/- The law on Chop. -/
import Derived.Test.YtojdllodojbnfaaDoorMZC
import Derived.Test.YtojdllodojbnfaaDoorPx13
namespace Go.Proofs.YtojdllodojbnfaaDoor.Pure
open Go.RowKit Go.Proofs.YtojdllodojbnfaaDoorW.PrintWords Go.Proofs.YtojdllodojbnfaaDoorW.PrintLast Go.Proofs.YtojdllodojbnfaaDoorW.PrintMore Go.Proofs.YtojdllodojbnfaaDoor.P

theorem FnExactChop : laws_FnExactChop.Pure := by
  intro s _
  refine Ev.rounds ?_
  unfold laws_FnExactChop.f
  by_cases h : (s.size : Int) > 1048576
  · exact Ev.pos h (Ev.now _)
  · obtain ⟨d, _, h1, h2⟩ := chop_same s (by omega)
    exact Ev.neg h (Ev.bind h1 (Ev.then h2 (Ev.pos rfl (Ev.now _))))
end Go.Proofs.YtojdllodojbnfaaDoor.Pure
