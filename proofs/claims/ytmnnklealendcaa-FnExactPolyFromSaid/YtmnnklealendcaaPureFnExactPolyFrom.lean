/- The law on PolyFrom: for every text the program and the reference answer the same polynomial and the same bool, new each time. -/
import Derived.Test.YtmnnklealendcaaMA
import Derived.Test.YtmnnklealendcaaMF
import Derived.Test.YtmnnklealendcaaPx4
import Derived.Test.YtmnnklealendcaaPx9
import Derived.Test.YtmnnklealendcaaPx10
import Derived.Test.YtmnnklealendcaaPx25
import Derived.Test.YtmnnklealendcaaPx26
namespace Go.Proofs.Ytmnnklealendcaa.Pure
open Go.RowKit Go.Proofs.YtmnnklealendcaaW.PrintWords Go.Proofs.YtmnnklealendcaaW.PrintLast Go.Proofs.YtmnnklealendcaaW.PrintMore Go.Proofs.Ytmnnklealendcaa.P

theorem FnExactPolyFrom : laws_FnExactPolyFrom.Pure := by
  intro s _
  refine Ev.rounds ?_
  unfold laws_FnExactPolyFrom.f
  have hl := polyFromR_len s
  by_cases h : (s.size : Int) > 1048576
  · exact Ev.pos h (Ev.now _)
  · refine Ev.neg h (Ev.bind (spec_PolyFrom_ev s) (Ev.bind (impl_PolyFrom_ev s) (Ev.bind (eqIntS_refl _ (by omega)) (Ev.pos rfl ?_))))
    refine Ev.step (f := fun k => (laws_markIntS.f k (polyFromR s).1 1).bind fun bt140 => ((laws_heldIntS.f k bt140.2 1).bind fun t142 => (if t142 < 0 then (some false) else (if t142 = bt140.1 then ((impl_PolyFrom.f k s).bind fun bt143 => ((laws_eqIntS.f k bt143.1 (polyFromR s).1).bind fun t147 => (if t147 = true then (laws_FnExactPolyFrom.j1 k bt140.2 bt140.1 (bt143.2 != (polyFromR s).2)) else (laws_FnExactPolyFrom.j1 k bt140.2 bt140.1 true)))) else (some false))))) (fun k => ?_) ?_
    · simp only [laws_FnExactPolyFrom.j0]
      rw [if_neg (by simp)]
    · refine Ev.bind (markIntS_ev _ (by omega)) (Ev.bind (heldIntS_ev _ (by omega)) (Ev.neg (by omega) (Ev.pos rfl (Ev.bind (impl_PolyFrom_ev s) (Ev.bind (eqIntS_refl _ (by omega)) (Ev.pos rfl ?_))))))
      refine Ev.step (f := fun k => (laws_heldIntS.f k (marks (polyFromR s).1.length) 1).bind fun t148 => (if t148 < 0 then (some false) else (if t148 = ((polyFromR s).1.length : Int) + 1 then (some true) else (some false)))) (fun k => ?_) ?_
      · simp only [laws_FnExactPolyFrom.j1]
        rw [if_neg (by simp)]
      · exact Ev.bind (heldIntS_ev _ (by omega)) (Ev.neg (by omega) (Ev.pos rfl (Ev.now _)))
end Go.Proofs.Ytmnnklealendcaa.Pure
