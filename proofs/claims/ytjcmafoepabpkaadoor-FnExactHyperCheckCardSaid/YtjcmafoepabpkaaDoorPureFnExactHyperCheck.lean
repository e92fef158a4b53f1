/- The law on HyperCheck. -/
import Derived.Test.YtjcmafoepabpkaaDoorV0
import Derived.Test.YtjcmafoepabpkaaDoorHA2
import Derived.Test.YtjcmafoepabpkaaDoorHA3
import Derived.Laws.BitsAllLaws
import Derived.Laws.BitsLemmas
import Derived.Test.YtjcmafoepabpkaaDoorHA4
import Derived.Test.YtjcmafoepabpkaaDoorHA5
import Derived.Test.YtjcmafoepabpkaaDoorMW3
import Derived.Test.YtjcmafoepabpkaaDoorPx1
import Derived.Test.YtjcmafoepabpkaaDoorPx2
import Derived.Test.YtjcmafoepabpkaaDoorPx3
import Derived.Test.YtjcmafoepabpkaaDoorPx4
import Derived.Test.YtjcmafoepabpkaaDoorPx10
import Derived.Test.YtjcmafoepabpkaaDoorPx11
import Derived.Test.YtjcmafoepabpkaaDoorPx12
import Derived.Test.YtjcmafoepabpkaaDoorPx13
import Derived.Test.YtjcmafoepabpkaaDoorPx14
import Derived.Test.YtjcmafoepabpkaaDoorPx15
import Derived.Test.YtjcmafoepabpkaaDoorPx23
import Derived.Test.YtjcmafoepabpkaaDoorPx24
import Derived.Test.YtjcmafoepabpkaaDoorPx25
import Derived.Test.YtjcmafoepabpkaaDoorPx26
import Derived.Test.YtjcmafoepabpkaaDoorPx31
import Derived.Test.YtjcmafoepabpkaaDoorPx32
import Derived.Test.YtjcmafoepabpkaaDoorPx33
import Derived.Test.YtjcmafoepabpkaaDoorPx34
import Derived.Test.YtjcmafoepabpkaaDoorPx35
import Derived.Test.YtjcmafoepabpkaaDoorPx37
import Derived.Test.YtjcmafoepabpkaaDoorPx38
import Derived.Test.YtjcmafoepabpkaaDoorPx39
import Derived.Test.YtjcmafoepabpkaaDoorHA2
import Derived.Test.YtjcmafoepabpkaaDoorHA3
import Derived.Test.YtjcmafoepabpkaaDoorHA1
import Derived.Test.YtjcmafoepabpkaaDoorHA4
import Derived.Test.YtjcmafoepabpkaaDoorHA5
import Derived.Test.YtjcmafoepabpkaaDoorHA6
import Derived.Test.YtjcmafoepabpkaaDoorKFnExactHyperCheck
namespace Go.Proofs.YtjcmafoepabpkaaDoor.Pure
set_option linter.unusedVariables false
open Go.RowKit Go.Proofs.YtjcmafoepabpkaaDoorW.PrintWords Go.Proofs.YtjcmafoepabpkaaDoorW.PrintLast Go.Proofs.YtjcmafoepabpkaaDoorW.PrintMore Go.Proofs.YtjcmafoepabpkaaDoor.P

theorem FnExactHyperCheck (pub m : ByteArray) (x : Int) (a b : List ByteArray) (s : ByteArray) (y : Int) (c d : List ByteArray) (hpp : pub.size ≤ 140737488351232) (hm : m.size ≤ 140737488351232) (_ : (Lit.int .i64 x).wf = true) (ha : a.length ≤ 9223372036854775807) (hsa : ∀ s ∈ a, s.size ≤ 9223372036854775807) (hb : b.length ≤ 9223372036854775807) (hsb : ∀ s ∈ b, s.size ≤ 9223372036854775807)
    (hs : s.size ≤ maxLen) (_ : (Lit.int .i64 y).wf = true) (hc : c.length ≤ 9223372036854775807) (hsc : ∀ s ∈ c, s.size ≤ 9223372036854775807) (hd : d.length ≤ 9223372036854775807) (hsd : ∀ s ∈ d, s.size ≤ 9223372036854775807) :
    ∃ k, laws_FnExactHyperCheck.f k pub m x a b s y c d = some true := by
  refine Ev.rounds ?_
  unfold laws_FnExactHyperCheck.f
  by_cases h1 : (pub.size : Int) > 1048576
  · exact Ev.pos h1 (Ev.now _)
  by_cases h2 : (m.size : Int) > 1048576
  · exact Ev.neg h1 (Ev.pos h2 (Ev.now _))
  refine Ev.neg h1 (Ev.neg h2 ?_)
  have hs' : s.size ≤ 9223372036854775807 := by unfold maxLen at hs; omega
  obtain ⟨r, hr, hp⟩ := szHyper_ev x a b s y c d ha hb hsa hsb hs' hc hd hsc hsd
  rcases hp with hp | ⟨p0, pa, pb, ps, pc, pd⟩
  · exact Ev.bind hr (Ev.pos hp (Ev.now _))
  · obtain ⟨o, f1, f2⟩ := hyperCheck_same pub m x a b s y c d (by omega) (by omega) (by omega) (by omega) (by omega) (by omega)
    have t := toHyper_ev x a b s y c d (by omega) (by omega) (by omega) (by omega)
    have q := eqHyper_refl x a b s y c d (by omega) (by omega) (by omega) (by omega)
    exact Ev.bind hr (Ev.neg (by omega) (Ev.bind t (Ev.bind f1 (Ev.bind t (Ev.bind f2 (Ev.neg (by simp) (Ev.bind t (Ev.bind q (Ev.pos rfl (Ev.now _))))))))))
end Go.Proofs.YtjcmafoepabpkaaDoor.Pure
