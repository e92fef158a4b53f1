/- The law on ChainOf. -/
import Derived.Test.YtojdllodojbnfaaDoorMZD
import Derived.Test.YtojdllodojbnfaaDoorPx16
namespace Go.Proofs.YtojdllodojbnfaaDoor.Pure
open Go.RowKit Go.Proofs.YtojdllodojbnfaaDoorW.PrintWords Go.Proofs.YtojdllodojbnfaaDoorW.PrintLast Go.Proofs.YtojdllodojbnfaaDoorW.PrintMore Go.Proofs.YtojdllodojbnfaaDoor.P

theorem FnExactChainOf : laws_FnExactChainOf.Pure := by
  intro x a b c n
  intros
  refine Ev.rounds ?_
  unfold laws_FnExactChainOf.f
  by_cases h : (x.size : Int) > 1048576
  · exact Ev.pos h (Ev.now _)
  obtain ⟨d, _, h1, h2⟩ := chain_same x a b c n (by omega)
  exact Ev.neg h (Ev.bind h1 (Ev.bind h2 (Ev.pos rfl (Ev.now _))))
end Go.Proofs.YtojdllodojbnfaaDoor.Pure
