/- The law on RootBy. -/
import Derived.Test.YtojdllodojbnfaaDoorML
import Derived.Test.YtojdllodojbnfaaDoorMZE
import Derived.Test.YtojdllodojbnfaaDoorPx24
namespace Go.Proofs.YtojdllodojbnfaaDoor.Pure
set_option linter.unusedVariables false
open Go.RowKit Go.Proofs.YtojdllodojbnfaaDoorW.PrintWords Go.Proofs.YtojdllodojbnfaaDoorW.PrintLast Go.Proofs.YtojdllodojbnfaaDoorW.PrintMore Go.Proofs.YtojdllodojbnfaaDoor.P

theorem FnExactRootBy (x : ByteArray) (p : Int) (l : List ByteArray) (hz : x.size ≤ 140737488351232) (hx : (Lit.int .i64 p).wf = true) (hl : l.length ≤ 9223372036854775807) (hs : ∀ s ∈ l, s.size ≤ 9223372036854775807) : ∃ k, laws_FnExactRootBy.f k x p l = some true := by
  refine Ev.rounds ?_
  unfold laws_FnExactRootBy.f
  by_cases h : (x.size : Int) > 1048576
  · exact Ev.pos h (Ev.now _)
  refine Ev.neg h ?_
  obtain ⟨r, hr, hp⟩ := szStringS_ev l 1048576 (by omega) (by omega) hl hs
  rcases hp with hp | ⟨p0, _, pl, ps⟩
  · exact Ev.bind hr (Ev.pos hp (Ev.now _))
  · obtain ⟨d, _, f1, f2⟩ := rootBy_same x p l (by omega) (fun s h => by have := ps s h; omega)
    have t := toStringS_ev l (by omega)
    exact Ev.bind hr (Ev.neg (by omega) (Ev.bind t (Ev.bind f1 (Ev.bind t (Ev.bind f2 (Ev.pos rfl (Ev.bind t (Ev.bind (eqStringS_refl l (by omega)) (Ev.pos rfl (Ev.now _))))))))))
end Go.Proofs.YtojdllodojbnfaaDoor.Pure
