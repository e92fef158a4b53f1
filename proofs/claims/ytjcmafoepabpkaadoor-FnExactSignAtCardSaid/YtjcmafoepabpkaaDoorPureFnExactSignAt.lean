/- The law on SignAt. -/
import Derived.Test.YtjcmafoepabpkaaDoorV0
import Derived.Test.YtjcmafoepabpkaaDoorHA2
import Derived.Test.YtjcmafoepabpkaaDoorHA3
import Derived.Laws.BitsAllLaws
import Derived.Laws.BitsLemmas
import Derived.Test.YtjcmafoepabpkaaDoorHA4
import Derived.Test.YtjcmafoepabpkaaDoorHA5
import Derived.Test.YtjcmafoepabpkaaDoorMW3
import Derived.Test.YtjcmafoepabpkaaDoorPx2
import Derived.Test.YtjcmafoepabpkaaDoorPx3
import Derived.Test.YtjcmafoepabpkaaDoorPx4
import Derived.Test.YtjcmafoepabpkaaDoorPx12
import Derived.Test.YtjcmafoepabpkaaDoorPx13
import Derived.Test.YtjcmafoepabpkaaDoorPx16
import Derived.Test.YtjcmafoepabpkaaDoorPx23
import Derived.Test.YtjcmafoepabpkaaDoorPx24
import Derived.Test.YtjcmafoepabpkaaDoorPx26
import Derived.Test.YtjcmafoepabpkaaDoorPx27
import Derived.Test.YtjcmafoepabpkaaDoorPx29
import Derived.Test.YtjcmafoepabpkaaDoorPx31
import Derived.Test.YtjcmafoepabpkaaDoorPx33
import Derived.Test.YtjcmafoepabpkaaDoorPx40
import Derived.Test.YtjcmafoepabpkaaDoorPx41
import Derived.Test.YtjcmafoepabpkaaDoorPx42
import Derived.Test.YtjcmafoepabpkaaDoorPx43
import Derived.Test.YtjcmafoepabpkaaDoorHA2
import Derived.Test.YtjcmafoepabpkaaDoorHA3
import Derived.Test.YtjcmafoepabpkaaDoorHA1
import Derived.Test.YtjcmafoepabpkaaDoorHA4
import Derived.Test.YtjcmafoepabpkaaDoorHA5
import Derived.Test.YtjcmafoepabpkaaDoorKFnExactSignAt
namespace Go.Proofs.YtjcmafoepabpkaaDoor.Pure
set_option linter.unusedVariables false
open Go.RowKit Go.Proofs.YtjcmafoepabpkaaDoorW.PrintWords Go.Proofs.YtjcmafoepabpkaaDoorW.PrintLast Go.Proofs.YtjcmafoepabpkaaDoorW.PrintMore Go.Proofs.YtjcmafoepabpkaaDoor.P

theorem FnExactSignAt : laws_FnExactSignAt.Pure := by
  intro s p m _ _ _
  refine Ev.rounds ?_
  unfold laws_FnExactSignAt.f
  by_cases h1 : (s.size : Int) > 1048576
  · exact Ev.pos h1 (Ev.now _)
  by_cases h2 : (m.size : Int) > 1048576
  · exact Ev.neg h1 (Ev.pos h2 (Ev.now _))
  refine Ev.neg h1 (Ev.neg h2 ?_)
  obtain ⟨x, a, b, c, a1, b1, f1, f2⟩ := signAt_same s p m (by omega) (by omega)
  have q := eqSig_refl x a b (by omega) (by omega)
  obtain ⟨n, ts, us, hn, hm, hh⟩ := marks_sig x x a b (by omega) (by omega)
  refine Ev.bind f1 (Ev.bind f2 (Ev.bind q (Ev.pos rfl ?_)))
  refine Ev.step (fun k => by simp only [laws_FnExactSignAt.j0]; rw [if_neg (by simp)]) ?_
  refine Ev.bind hm (Ev.bind hh (Ev.neg (by omega) (Ev.pos rfl (Ev.bind f2 (Ev.bind q (Ev.pos rfl ?_))))))
  refine Ev.step (fun k => by simp only [laws_FnExactSignAt.j1]; rw [if_neg (by simp)]) ?_
  exact Ev.bind hh (Ev.neg (by omega) (Ev.pos rfl (Ev.now _)))
end Go.Proofs.YtjcmafoepabpkaaDoor.Pure
