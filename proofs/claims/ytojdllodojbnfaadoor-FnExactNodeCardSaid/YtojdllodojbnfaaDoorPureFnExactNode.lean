/- The law on Node. -/
import Derived.Test.YtojdllodojbnfaaDoorMZC
import Derived.Test.YtojdllodojbnfaaDoorPx14
namespace Go.Proofs.YtojdllodojbnfaaDoor.Pure
open Go.RowKit Go.Proofs.YtojdllodojbnfaaDoorW.PrintWords Go.Proofs.YtojdllodojbnfaaDoorW.PrintLast Go.Proofs.YtojdllodojbnfaaDoorW.PrintMore Go.Proofs.YtojdllodojbnfaaDoor.P

theorem FnExactNode : laws_FnExactNode.Pure := by
  intro a b s t _ _ _ _
  refine Ev.rounds ?_
  unfold laws_FnExactNode.f
  by_cases h : (s.size : Int) > 1048576
  · exact Ev.pos h (Ev.now _)
  refine Ev.neg h ?_
  by_cases h' : (t.size : Int) > 1048576
  · exact Ev.pos h' (Ev.now _)
  refine Ev.neg h' ?_
  obtain ⟨d, _, h1, h2⟩ := node_same a b s t (by omega) (by omega)
  exact Ev.bind h1 (Ev.then h2 (Ev.pos rfl (Ev.now _)))
end Go.Proofs.YtojdllodojbnfaaDoor.Pure
