/- The law on OnceFound. -/
import Derived.Test.YtjcmafoepabpkaaDoorV0
import Derived.Test.YtjcmafoepabpkaaDoorHA2
import Derived.Test.YtjcmafoepabpkaaDoorHA3
import Derived.Laws.BitsAllLaws
import Derived.Laws.BitsLemmas
import Derived.Test.YtjcmafoepabpkaaDoorHA4
import Derived.Test.YtjcmafoepabpkaaDoorHA5
import Derived.Test.YtjcmafoepabpkaaDoorMW3
import Derived.Test.YtjcmafoepabpkaaDoorPx1
import Derived.Test.YtjcmafoepabpkaaDoorPx2
import Derived.Test.YtjcmafoepabpkaaDoorPx3
import Derived.Test.YtjcmafoepabpkaaDoorPx4
import Derived.Test.YtjcmafoepabpkaaDoorPx23
import Derived.Test.YtjcmafoepabpkaaDoorPx24
import Derived.Test.YtjcmafoepabpkaaDoorPx25
import Derived.Test.YtjcmafoepabpkaaDoorPx26
import Derived.Test.YtjcmafoepabpkaaDoorPx56
import Derived.Test.YtjcmafoepabpkaaDoorHA2
import Derived.Test.YtjcmafoepabpkaaDoorHA3
import Derived.Test.YtjcmafoepabpkaaDoorHA1
import Derived.Test.YtjcmafoepabpkaaDoorHA4
import Derived.Test.YtjcmafoepabpkaaDoorHA5
import Derived.Test.YtjcmafoepabpkaaDoorHA6
import Derived.Test.YtjcmafoepabpkaaDoorKFnExactOnceFound
namespace Go.Proofs.YtjcmafoepabpkaaDoor.Pure
set_option linter.unusedVariables false
open Go.RowKit Go.Proofs.YtjcmafoepabpkaaDoorW.PrintWords Go.Proofs.YtjcmafoepabpkaaDoorW.PrintLast Go.Proofs.YtjcmafoepabpkaaDoorW.PrintMore Go.Proofs.YtjcmafoepabpkaaDoor.P

theorem FnExactOnceFound (l : List ByteArray) (p : Int) (m : ByteArray) (hl : l.length ≤ 9223372036854775807) (hs : ∀ s ∈ l, s.size ≤ 9223372036854775807) (hx : (Lit.int .i64 p).wf = true) (hz : m.size ≤ 140737488351232) : ∃ k, laws_FnExactOnceFound.f k l p m = some true := by
  refine Ev.rounds ?_
  unfold laws_FnExactOnceFound.f
  by_cases h : (m.size : Int) > 1048576
  · exact Ev.pos h (Ev.now _)
  refine Ev.neg h ?_
  obtain ⟨r, hr, hp⟩ := szStringS_ev l 1048576 (by omega) (by omega) hl hs
  rcases hp with hp | ⟨p0, _, pl, ps⟩
  · exact Ev.bind hr (Ev.pos hp (Ev.now _))
  · obtain ⟨d, _, _, f1, f2⟩ := found_same l p m (by omega) (fun s h => by have := ps s h; omega)
    have t := toStringS_ev l (by omega)
    have q1 := eqStringS_refl l (by omega)
    exact Ev.bind hr (Ev.neg (by omega) (Ev.bind t (Ev.bind f1 (Ev.bind t (Ev.bind f2 (Ev.pos rfl (Ev.bind t (Ev.bind q1 (Ev.pos rfl (Ev.now _))))))))))
end Go.Proofs.YtjcmafoepabpkaaDoor.Pure
