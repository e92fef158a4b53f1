/- The law on samples: what Uniform and Small draw from a drawn seed is a right polynomial, a small one, and the reference's own. -/
import Derived.Test.YtnckhligcdieaaaPx0
import Derived.Test.YtnckhligcdieaaaV0
import Derived.Test.YtnckhligcdieaaaHB2
import Derived.Test.YtnckhligcdieaaaHB3
import Derived.Laws.BitsAllLaws
import Derived.Laws.BitsLemmas
import Derived.Test.YtnckhligcdieaaaHB4
import Derived.Test.YtnckhligcdieaaaHB5
import Derived.Test.YtnckhligcdieaaaHB6
import Derived.Test.YtnckhligcdieaaaPx1
import Derived.Test.YtnckhligcdieaaaPx2
import Derived.Test.YtnckhligcdieaaaPx3
import Derived.Test.YtnckhligcdieaaaPx5
import Derived.Test.YtnckhligcdieaaaPx6
import Derived.Test.YtnckhligcdieaaaPx7
import Derived.Test.YtnckhligcdieaaaPx16
import Derived.Test.YtnckhligcdieaaaPx17
import Derived.Test.YtnckhligcdieaaaPx18
import Derived.Test.YtnckhligcdieaaaPx19
import Derived.Test.YtnckhligcdieaaaPx20
import Derived.Test.YtnckhligcdieaaaPx22
import Derived.Test.YtnckhligcdieaaaPx23
import Derived.Test.YtnckhligcdieaaaPx25
import Derived.Test.YtnckhligcdieaaaHB2
import Derived.Test.YtnckhligcdieaaaHB3
import Derived.Test.YtnckhligcdieaaaHB1
import Derived.Test.YtnckhligcdieaaaHB5
import Derived.Test.YtnckhligcdieaaaHB4
import Derived.Test.YtnckhligcdieaaaHB6
import Derived.Test.YtnckhligcdieaaaKFnSamples
namespace Go.Proofs.Ytnckhligcdieaaa.Pure
open Go.RowKit Go.Proofs.YtnckhligcdieaaaW.PrintWords Go.Proofs.YtnckhligcdieaaaW.PrintLast Go.Proofs.YtnckhligcdieaaaW.PrintMore Go.Proofs.Ytnckhligcdieaaa.P

theorem drawUniform_some (l : List Int) (hl : l.length ≤ 1048576) : ∃ (s : ByteArray) (x y : Int), s.size ≤ 2000 ∧ Ev (fun k => spec_DrawUniform.f k l) (s, x, y) := by
  obtain ⟨h, e0, c0⟩ := new_some l hl
  obtain ⟨s, i1, h1, s1, e1, c1⟩ := text05_some l 0 h c0
  obtain ⟨x, i2, h2, e2, c2⟩ := place_some l i1 h1 256 c1 (by decide)
  obtain ⟨y, i3, h3, e3, c3⟩ := place_some l i2 h2 4 c2 (by decide)
  refine ⟨s, x, y, s1, ?_⟩
  unfold spec_DrawUniform.f
  exact Ev.bind e0 (Ev.bind e1 (Ev.then e2 (Ev.then e3 (Ev.now _))))
theorem FnSamples : laws_FnSamples.Pure := by
  intro l _ _ _
  refine Ev.rounds ?_
  unfold laws_FnSamples.f
  by_cases hb : (l.length : Int) > 1048576
  · exact Ev.then (a := true) (by unfold laws_big.f; rw [decide_eq_true hb]) (Ev.pos rfl (Ev.now _))
  refine Ev.then (a := false) (by unfold laws_big.f; rw [decide_eq_false hb]) (Ev.neg (by decide) ?_)
  obtain ⟨s, x, y, hs, e⟩ := drawUniform_some l (by omega)
  have hU := uniV_len s x y
  have hV := smallV_len s x
  have u1 := uniV_ok s x y
  have v1 := smallV_poly s x
  have v2 := smallV_ok s x
  refine Ev.bind e (Ev.bind (impl_Uniform_ev s x y (by omega)) (Ev.bind (impl_Small_ev s x (by omega)) ?_))
  refine Ev.bind (impl_PolyOk_ev _ (by omega)) (Ev.pos u1 ?_)
  refine Ev.bind (impl_SmallOk_ev _ (by omega)) (Ev.pos v2 ?_)
  refine Ev.bind (impl_PolyOk_ev _ (by omega)) (Ev.pos v1 ?_)
  refine Ev.bind (spec_Uniform_ev s x y (by omega)) (Ev.bind (sameInts_self _ (by omega)) (Ev.pos rfl ?_))
  refine Ev.bind (spec_Small_ev s x (by omega)) (Ev.bind (sameInts_self _ (by omega)) (Ev.pos rfl ?_))
  exact Ev.bind (impl_SmallOk_ev [1] (by decide)) (Ev.now _)
end Go.Proofs.Ytnckhligcdieaaa.Pure
