/- The law on PairOf: the program's pair of keys is the reference's. -/
import Derived.Test.YthdjmbbkenbeiaaDoorPx0
import Derived.Test.YthdjmbbkenbeiaaDoorV0
import Derived.Test.YthdjmbbkenbeiaaDoorHB2
import Derived.Test.YthdjmbbkenbeiaaDoorHB3
import Derived.Laws.BitsAllLaws
import Derived.Laws.BitsLemmas
import Derived.Test.YthdjmbbkenbeiaaDoorHB4
import Derived.Test.YthdjmbbkenbeiaaDoorHB5
import Derived.Test.YthdjmbbkenbeiaaDoorHB6
import Derived.Test.YthdjmbbkenbeiaaDoorHA2
import Derived.Test.YthdjmbbkenbeiaaDoorHA3
import Derived.Test.YthdjmbbkenbeiaaDoorHA4
import Derived.Test.YthdjmbbkenbeiaaDoorHA5
import Derived.Test.YthdjmbbkenbeiaaDoorMW3
import Derived.Test.YthdjmbbkenbeiaaDoorPx1
import Derived.Test.YthdjmbbkenbeiaaDoorPx2
import Derived.Test.YthdjmbbkenbeiaaDoorPx3
import Derived.Test.YthdjmbbkenbeiaaDoorPx4
import Derived.Test.YthdjmbbkenbeiaaDoorPx5
import Derived.Test.YthdjmbbkenbeiaaDoorPx6
import Derived.Test.YthdjmbbkenbeiaaDoorPx7
import Derived.Test.YthdjmbbkenbeiaaDoorPx8
import Derived.Test.YthdjmbbkenbeiaaDoorPx9
import Derived.Test.YthdjmbbkenbeiaaDoorPx10
import Derived.Test.YthdjmbbkenbeiaaDoorPx11
import Derived.Test.YthdjmbbkenbeiaaDoorPx12
import Derived.Test.YthdjmbbkenbeiaaDoorHB2
import Derived.Test.YthdjmbbkenbeiaaDoorHB3
import Derived.Test.YthdjmbbkenbeiaaDoorHB1
import Derived.Test.YthdjmbbkenbeiaaDoorHB5
import Derived.Test.YthdjmbbkenbeiaaDoorHB4
import Derived.Test.YthdjmbbkenbeiaaDoorHB6
import Derived.Test.YthdjmbbkenbeiaaDoorHA2
import Derived.Test.YthdjmbbkenbeiaaDoorHA3
import Derived.Test.YthdjmbbkenbeiaaDoorHA1
import Derived.Test.YthdjmbbkenbeiaaDoorHA4
import Derived.Test.YthdjmbbkenbeiaaDoorHA5
import Derived.Test.YthdjmbbkenbeiaaDoorKFnExactPairOf
namespace Go.Proofs.YthdjmbbkenbeiaaDoor.Pure
open Go.RowKit Go.Proofs.YthdjmbbkenbeiaaDoorW.PrintWords Go.Proofs.YthdjmbbkenbeiaaDoorW.PrintLast Go.Proofs.YthdjmbbkenbeiaaDoorW.PrintMore Go.Proofs.YthdjmbbkenbeiaaDoor.P

theorem FnExactPairOf : laws_FnExactPairOf.Pure := by
  intro s _
  refine Ev.rounds ?_
  unfold laws_FnExactPairOf.f
  by_cases h : (s.size : Int) > 1048576
  · exact Ev.pos h (Ev.now _)
  obtain ⟨P, S, b, e1, e2⟩ := pairOf_any s
  have eq : laws_eqPair.f P S P S = some true := by
    unfold laws_eqPair.f
    rw [if_pos rfl, if_pos rfl]
  exact Ev.neg h (Ev.bind e1 (Ev.bind e2 (Ev.then eq (Ev.pos rfl (Ev.neg (by simp) (Ev.now _))))))
end Go.Proofs.YthdjmbbkenbeiaaDoor.Pure
