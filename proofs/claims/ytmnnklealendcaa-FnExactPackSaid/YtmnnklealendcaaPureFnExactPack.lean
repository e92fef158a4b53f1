/- The law on Pack: for every list of numbers and every count of bits the program and the reference answer the same text and the same bool, and the list stays. -/
import Derived.Test.YtmnnklealendcaaMA
import Derived.Test.YtmnnklealendcaaMC
import Derived.Test.YtmnnklealendcaaPx3
import Derived.Test.YtmnnklealendcaaPx4
import Derived.Test.YtmnnklealendcaaPx7
namespace Go.Proofs.Ytmnnklealendcaa.Pure
open Go.RowKit Go.Proofs.YtmnnklealendcaaW.PrintWords Go.Proofs.YtmnnklealendcaaW.PrintLast Go.Proofs.YtmnnklealendcaaW.PrintMore Go.Proofs.Ytmnnklealendcaa.P

theorem FnExactPack : laws_FnExactPack.Pure := by
  intro l b _ _ _ _
  refine Ev.rounds ?_
  unfold laws_FnExactPack.f
  by_cases h : (l.length : Int) > 1048576
  · exact Ev.pos h (Ev.now _)
  · refine Ev.neg h (Ev.bind (toIntS_ev l (by omega)) (Ev.bind (spec_Pack_ev l b (by omega)) (Ev.bind (toIntS_ev l (by omega)) (Ev.bind (impl_Pack_ev l b (by omega)) (Ev.pos rfl ?_)))))
    refine Ev.step (f := fun k => (laws_toIntS.f k l).bind fun t181 => ((laws_eqIntS.f k l t181).bind fun t184 => (if t184 = true then (some true) else (some false)))) (fun k => ?_) ?_
    · simp only [laws_FnExactPack.j0]
      rw [if_neg (by simp)]
    · exact Ev.bind (toIntS_ev l (by omega)) (Ev.bind (eqIntS_refl l (by omega)) (Ev.pos rfl (Ev.now _)))
end Go.Proofs.Ytmnnklealendcaa.Pure
