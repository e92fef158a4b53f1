/- The law on RootOf. -/
import Derived.Test.YtojdllodojbnfaaDoorML
import Derived.Test.YtojdllodojbnfaaDoorMZE
import Derived.Test.YtojdllodojbnfaaDoorPx28
namespace Go.Proofs.YtojdllodojbnfaaDoor.Pure
set_option linter.unusedVariables false
open Go.RowKit Go.Proofs.YtojdllodojbnfaaDoorW.PrintWords Go.Proofs.YtojdllodojbnfaaDoorW.PrintLast Go.Proofs.YtojdllodojbnfaaDoorW.PrintMore Go.Proofs.YtojdllodojbnfaaDoor.P

theorem FnExactRootOf (l : List ByteArray) (hl : l.length ≤ 9223372036854775807) (hs : ∀ s ∈ l, s.size ≤ 9223372036854775807) : ∃ k, laws_FnExactRootOf.f k l = some true := by
  refine Ev.rounds ?_
  unfold laws_FnExactRootOf.f
  obtain ⟨r, hr, hp⟩ := szStringS_ev l 1048576 (by omega) (by omega) hl hs
  rcases hp with hp | ⟨p0, _, pl, ps⟩
  · exact Ev.bind hr (Ev.pos hp (Ev.now _))
  · obtain ⟨d, _, _, f1, f2⟩ := rootOf_same l (fun s h => by have := ps s h; omega)
    have t := toStringS_ev l (by omega)
    exact Ev.bind hr (Ev.neg (by omega) (Ev.bind t (Ev.bind f1 (Ev.bind t (Ev.bind f2 (Ev.pos rfl (Ev.bind t (Ev.bind (eqStringS_refl l (by omega)) (Ev.pos rfl (Ev.now _))))))))))
end Go.Proofs.YtojdllodojbnfaaDoor.Pure
