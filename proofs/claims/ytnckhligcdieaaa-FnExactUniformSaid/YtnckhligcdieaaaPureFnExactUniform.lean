/- The law on Uniform: for every seed and any two numbers the program and the reference answer the same list, new each time. -/
import Derived.Test.YtnckhligcdieaaaPx0
import Derived.Test.YtnckhligcdieaaaV0
import Derived.Test.YtnckhligcdieaaaHB2
import Derived.Test.YtnckhligcdieaaaHB3
import Derived.Laws.BitsAllLaws
import Derived.Laws.BitsLemmas
import Derived.Test.YtnckhligcdieaaaHB4
import Derived.Test.YtnckhligcdieaaaHB5
import Derived.Test.YtnckhligcdieaaaHB6
import Derived.Test.YtnckhligcdieaaaPx1
import Derived.Test.YtnckhligcdieaaaPx2
import Derived.Test.YtnckhligcdieaaaPx4
import Derived.Test.YtnckhligcdieaaaPx16
import Derived.Test.YtnckhligcdieaaaPx18
import Derived.Test.YtnckhligcdieaaaPx19
import Derived.Test.YtnckhligcdieaaaPx22
import Derived.Test.YtnckhligcdieaaaPx23
import Derived.Test.YtnckhligcdieaaaPx24
import Derived.Test.YtnckhligcdieaaaHB2
import Derived.Test.YtnckhligcdieaaaHB3
import Derived.Test.YtnckhligcdieaaaHB1
import Derived.Test.YtnckhligcdieaaaHB5
import Derived.Test.YtnckhligcdieaaaHB4
import Derived.Test.YtnckhligcdieaaaHB6
import Derived.Test.YtnckhligcdieaaaKFnExactUniform
namespace Go.Proofs.Ytnckhligcdieaaa.Pure
open Go.RowKit Go.Proofs.YtnckhligcdieaaaW.PrintWords Go.Proofs.YtnckhligcdieaaaW.PrintLast Go.Proofs.YtnckhligcdieaaaW.PrintMore Go.Proofs.Ytnckhligcdieaaa.P

theorem FnExactUniform : laws_FnExactUniform.Pure := by
  intro s x y _ _ _
  refine Ev.rounds ?_
  unfold laws_FnExactUniform.f
  have hl := uniV_len s x y
  by_cases h : (s.size : Int) > 1048576
  · exact Ev.pos h (Ev.now _)
  · refine Ev.neg h (Ev.bind (spec_Uniform_ev s x y (by omega)) (Ev.bind (impl_Uniform_ev s x y (by omega)) (Ev.bind (eqIntS_refl _ (by omega)) (Ev.pos rfl ?_))))
    refine Ev.bind (markIntS_ev _ (by omega)) (Ev.bind (heldIntS_ev _ (by omega)) (Ev.neg (by omega) (Ev.pos rfl (Ev.bind (impl_Uniform_ev s x y (by omega)) (Ev.bind (eqIntS_refl _ (by omega)) (Ev.pos rfl ?_))))))
    exact Ev.bind (heldIntS_ev _ (by omega)) (Ev.neg (by omega) (Ev.pos rfl (Ev.now _)))
end Go.Proofs.Ytnckhligcdieaaa.Pure
