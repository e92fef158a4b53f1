/- The law on Unpack: for every text, count of bits and count of numbers the program and the reference answer the same list and the same bool, and the list is new each time. -/
import Derived.Test.YtmnnklealendcaaMA
import Derived.Test.YtmnnklealendcaaMF
import Derived.Test.YtmnnklealendcaaPx4
import Derived.Test.YtmnnklealendcaaPx9
import Derived.Test.YtmnnklealendcaaPx10
namespace Go.Proofs.Ytmnnklealendcaa.Pure
open Go.RowKit Go.Proofs.YtmnnklealendcaaW.PrintWords Go.Proofs.YtmnnklealendcaaW.PrintLast Go.Proofs.YtmnnklealendcaaW.PrintMore Go.Proofs.Ytmnnklealendcaa.P

theorem FnExactUnpack : laws_FnExactUnpack.Pure := by
  intro s b n _ _ _
  refine Ev.rounds ?_
  unfold laws_FnExactUnpack.f
  have hl := unpackR_len s b n
  by_cases h : (s.size : Int) > 1048576
  · exact Ev.pos h (Ev.now _)
  · refine Ev.neg h (Ev.bind (spec_Unpack_ev s b n) (Ev.bind (impl_Unpack_ev s b n) (Ev.bind (eqIntS_refl _ (by omega)) (Ev.pos rfl ?_))))
    refine Ev.step (f := fun k => (laws_markIntS.f k (unpackR s b n).1 1).bind fun bt140 => ((laws_heldIntS.f k bt140.2 1).bind fun t142 => (if t142 < 0 then (some false) else (if t142 = bt140.1 then ((impl_Unpack.f k s b n).bind fun bt143 => ((laws_eqIntS.f k bt143.1 (unpackR s b n).1).bind fun t147 => (if t147 = true then (laws_FnExactUnpack.j1 k bt140.2 bt140.1 (bt143.2 != (unpackR s b n).2)) else (laws_FnExactUnpack.j1 k bt140.2 bt140.1 true)))) else (some false))))) (fun k => ?_) ?_
    · simp only [laws_FnExactUnpack.j0]
      rw [if_neg (by simp)]
    · refine Ev.bind (markIntS_ev _ (by omega)) (Ev.bind (heldIntS_ev _ (by omega)) (Ev.neg (by omega) (Ev.pos rfl (Ev.bind (impl_Unpack_ev s b n) (Ev.bind (eqIntS_refl _ (by omega)) (Ev.pos rfl ?_))))))
      refine Ev.step (f := fun k => (laws_heldIntS.f k (marks (unpackR s b n).1.length) 1).bind fun t148 => (if t148 < 0 then (some false) else (if t148 = ((unpackR s b n).1.length : Int) + 1 then (some true) else (some false)))) (fun k => ?_) ?_
      · simp only [laws_FnExactUnpack.j1]
        rw [if_neg (by simp)]
      · exact Ev.bind (heldIntS_ev _ (by omega)) (Ev.neg (by omega) (Ev.pos rfl (Ev.now _)))
end Go.Proofs.Ytmnnklealendcaa.Pure
