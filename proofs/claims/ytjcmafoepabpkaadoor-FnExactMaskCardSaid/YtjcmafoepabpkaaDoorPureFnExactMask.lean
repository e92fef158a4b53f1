/- The law on Mask: the program's bytes of a key and a number are the reference's. -/
import Derived.Test.YtjcmafoepabpkaaDoorPx0
import Derived.Test.YtjcmafoepabpkaaDoorV0
import Derived.Test.YtjcmafoepabpkaaDoorHA2
import Derived.Test.YtjcmafoepabpkaaDoorHA3
import Derived.Laws.BitsAllLaws
import Derived.Laws.BitsLemmas
import Derived.Test.YtjcmafoepabpkaaDoorHA4
import Derived.Test.YtjcmafoepabpkaaDoorHA5
import Derived.Test.YtjcmafoepabpkaaDoorMW3
import Derived.Test.YtjcmafoepabpkaaDoorPx1
import Derived.Test.YtjcmafoepabpkaaDoorPx2
import Derived.Test.YtjcmafoepabpkaaDoorPx3
import Derived.Test.YtjcmafoepabpkaaDoorPx4
import Derived.Test.YtjcmafoepabpkaaDoorPx5
import Derived.Test.YtjcmafoepabpkaaDoorPx6
import Derived.Test.YtjcmafoepabpkaaDoorHA2
import Derived.Test.YtjcmafoepabpkaaDoorHA3
import Derived.Test.YtjcmafoepabpkaaDoorHA1
import Derived.Test.YtjcmafoepabpkaaDoorHA4
import Derived.Test.YtjcmafoepabpkaaDoorHA5
import Derived.Test.YtjcmafoepabpkaaDoorHA7
import Derived.Test.YtjcmafoepabpkaaDoorHA8
import Derived.Test.YtjcmafoepabpkaaDoorKFnExactMask
namespace Go.Proofs.YtjcmafoepabpkaaDoor.Pure
open Go.RowKit Go.Proofs.YtjcmafoepabpkaaDoorW.PrintWords Go.Proofs.YtjcmafoepabpkaaDoorW.PrintLast Go.Proofs.YtjcmafoepabpkaaDoorW.PrintMore Go.Proofs.YtjcmafoepabpkaaDoor.P

theorem FnExactMask : laws_FnExactMask.Pure := by
  intro key num n _ _ _
  refine Ev.rounds ?_
  unfold laws_FnExactMask.f
  by_cases h : (key.size : Int) > 1048576
  · exact Ev.pos h (Ev.now _)
  · obtain ⟨R, b, h1, h2⟩ := mask_same key num n (by omega)
    exact Ev.neg h (Ev.bind h1 (Ev.bind h2 (Ev.pos rfl (Ev.neg (by simp) (Ev.now _)))))
end Go.Proofs.YtjcmafoepabpkaaDoor.Pure
