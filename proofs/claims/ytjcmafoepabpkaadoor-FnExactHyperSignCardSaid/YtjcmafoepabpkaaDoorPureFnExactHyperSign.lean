/- The law on HyperSign. -/
import Derived.Test.YtjcmafoepabpkaaDoorPx0
import Derived.Test.YtjcmafoepabpkaaDoorV0
import Derived.Test.YtjcmafoepabpkaaDoorHA2
import Derived.Test.YtjcmafoepabpkaaDoorHA3
import Derived.Laws.BitsAllLaws
import Derived.Laws.BitsLemmas
import Derived.Test.YtjcmafoepabpkaaDoorHA4
import Derived.Test.YtjcmafoepabpkaaDoorHA5
import Derived.Test.YtjcmafoepabpkaaDoorMW3
import Derived.Test.YtjcmafoepabpkaaDoorPx1
import Derived.Test.YtjcmafoepabpkaaDoorPx2
import Derived.Test.YtjcmafoepabpkaaDoorPx3
import Derived.Test.YtjcmafoepabpkaaDoorPx9
import Derived.Test.YtjcmafoepabpkaaDoorPx11
import Derived.Test.YtjcmafoepabpkaaDoorPx16
import Derived.Test.YtjcmafoepabpkaaDoorPx18
import Derived.Test.YtjcmafoepabpkaaDoorPx19
import Derived.Test.YtjcmafoepabpkaaDoorPx20
import Derived.Test.YtjcmafoepabpkaaDoorPx21
import Derived.Test.YtjcmafoepabpkaaDoorHA2
import Derived.Test.YtjcmafoepabpkaaDoorHA3
import Derived.Test.YtjcmafoepabpkaaDoorHA1
import Derived.Test.YtjcmafoepabpkaaDoorHA4
import Derived.Test.YtjcmafoepabpkaaDoorHA5
import Derived.Test.YtjcmafoepabpkaaDoorKFnExactHyperSign
namespace Go.Proofs.YtjcmafoepabpkaaDoor.Pure
set_option linter.unusedVariables false
open Go.RowKit Go.Proofs.YtjcmafoepabpkaaDoorW.PrintWords Go.Proofs.YtjcmafoepabpkaaDoorW.PrintLast Go.Proofs.YtjcmafoepabpkaaDoorW.PrintMore Go.Proofs.YtjcmafoepabpkaaDoor.P

theorem FnExactHyperSign : laws_FnExactHyperSign.Pure := by
  intro s p m _ _ _
  refine Ev.rounds ?_
  unfold laws_FnExactHyperSign.f
  by_cases h1 : (s.size : Int) > 1048576
  · exact Ev.pos h1 (Ev.now _)
  by_cases h2 : (m.size : Int) > 1048576
  · exact Ev.neg h1 (Ev.pos h2 (Ev.now _))
  refine Ev.neg h1 (Ev.neg h2 ?_)
  obtain ⟨x, a, b, r, y, c, d, ok, a1, b1, c1, d1, f1, f2⟩ := hyperSign_same s p m (by omega) (by omega)
  have q := eqHyper_refl x y r a b c d (by omega) (by omega) (by omega) (by omega)
  obtain ⟨n, ts, us, vs, ws, hn, hm, hh⟩ := marks_hyper x x y y r r a b c d (by omega) (by omega) (by omega) (by omega)
  refine Ev.bind f1 (Ev.bind f2 (Ev.bind q (Ev.pos rfl ?_)))
  refine Ev.step (fun k => by simp only [laws_FnExactHyperSign.j0]; rw [if_neg (by simp)]) ?_
  refine Ev.bind hm (Ev.bind hh (Ev.neg (by omega) (Ev.pos rfl (Ev.bind f2 (Ev.bind q (Ev.pos rfl ?_))))))
  refine Ev.step (fun k => by simp only [laws_FnExactHyperSign.j1]; rw [if_neg (by simp)]) ?_
  exact Ev.bind hh (Ev.neg (by omega) (Ev.pos rfl (Ev.now _)))
end Go.Proofs.YtjcmafoepabpkaaDoor.Pure
