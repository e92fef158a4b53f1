/- The law on OnceKey. -/
import Derived.Test.YtojdllodojbnfaaDoorME
import Derived.Test.YtojdllodojbnfaaDoorMG
import Derived.Test.YtojdllodojbnfaaDoorMZD
import Derived.Test.YtojdllodojbnfaaDoorPx19
namespace Go.Proofs.YtojdllodojbnfaaDoor.Pure
open Go.RowKit Go.Proofs.YtojdllodojbnfaaDoorW.PrintWords Go.Proofs.YtojdllodojbnfaaDoorW.PrintLast Go.Proofs.YtojdllodojbnfaaDoorW.PrintMore Go.Proofs.YtojdllodojbnfaaDoor.P

theorem FnExactOnceKey : laws_FnExactOnceKey.Pure := by
  intro seed leaf
  intros
  refine Ev.rounds ?_
  unfold laws_FnExactOnceKey.f
  by_cases h : (seed.size : Int) > 1048576
  · exact Ev.pos h (Ev.now _)
  obtain ⟨r, r1, r2, h1, h2⟩ := onceKey_same seed leaf (by omega)
  obtain ⟨ts, m1, m2⟩ := marks_str r 1 (by decide) (by omega)
  have q := eqStringS_refl r (by omega)
  exact Ev.neg h (Ev.bind h1 (Ev.bind h2 (Ev.bind q (Ev.pos rfl (Ev.bind m1 (Ev.bind m2 (Ev.neg (by omega) (Ev.pos rfl (Ev.bind h2 (Ev.bind q (Ev.pos rfl (Ev.bind m2 (Ev.neg (by omega) (Ev.pos rfl (Ev.now _)))))))))))))))
end Go.Proofs.YtojdllodojbnfaaDoor.Pure
