/- The law on DigitsOf. -/
import Derived.Test.YtojdllodojbnfaaDoorMA
import Derived.Test.YtojdllodojbnfaaDoorMZI
import Derived.Test.YtojdllodojbnfaaDoorPx10
namespace Go.Proofs.YtojdllodojbnfaaDoor.Pure
open Go.RowKit Go.Proofs.YtojdllodojbnfaaDoorW.PrintWords Go.Proofs.YtojdllodojbnfaaDoorW.PrintLast Go.Proofs.YtojdllodojbnfaaDoorW.PrintMore Go.Proofs.YtojdllodojbnfaaDoor.P

theorem FnExactDigitsOf : laws_FnExactDigitsOf.Pure := by
  intro s _
  refine Ev.rounds ?_
  unfold laws_FnExactDigitsOf.f
  by_cases h : (s.size : Int) > 1048576
  · exact Ev.pos h (Ev.now _)
  obtain ⟨r, r1, _, h1, h2⟩ := digits_same s (by omega)
  have hr : r.length ≤ 35184372088832 := by omega
  have q := eqIntS_refl r hr
  have m := markIntS_ev r hr
  have hh := heldIntS_ev r.length hr
  exact Ev.neg h (Ev.bind h1 (Ev.bind h2 (Ev.bind q (Ev.pos rfl (Ev.bind m (Ev.bind hh (Ev.neg (by omega) (Ev.pos rfl (Ev.bind h2 (Ev.bind q (Ev.pos rfl (Ev.bind hh (Ev.neg (by omega) (Ev.pos rfl (Ev.now _)))))))))))))))
end Go.Proofs.YtojdllodojbnfaaDoor.Pure
