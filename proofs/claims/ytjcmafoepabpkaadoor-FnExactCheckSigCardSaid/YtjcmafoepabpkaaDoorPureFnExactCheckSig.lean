/- The law on CheckSig. -/
import Derived.Test.YtjcmafoepabpkaaDoorV0
import Derived.Test.YtjcmafoepabpkaaDoorHA2
import Derived.Test.YtjcmafoepabpkaaDoorHA3
import Derived.Laws.BitsAllLaws
import Derived.Laws.BitsLemmas
import Derived.Test.YtjcmafoepabpkaaDoorHA4
import Derived.Test.YtjcmafoepabpkaaDoorHA5
import Derived.Test.YtjcmafoepabpkaaDoorMW3
import Derived.Test.YtjcmafoepabpkaaDoorPx1
import Derived.Test.YtjcmafoepabpkaaDoorPx2
import Derived.Test.YtjcmafoepabpkaaDoorPx3
import Derived.Test.YtjcmafoepabpkaaDoorPx4
import Derived.Test.YtjcmafoepabpkaaDoorPx10
import Derived.Test.YtjcmafoepabpkaaDoorPx11
import Derived.Test.YtjcmafoepabpkaaDoorPx12
import Derived.Test.YtjcmafoepabpkaaDoorPx13
import Derived.Test.YtjcmafoepabpkaaDoorPx23
import Derived.Test.YtjcmafoepabpkaaDoorPx24
import Derived.Test.YtjcmafoepabpkaaDoorPx25
import Derived.Test.YtjcmafoepabpkaaDoorPx26
import Derived.Test.YtjcmafoepabpkaaDoorPx31
import Derived.Test.YtjcmafoepabpkaaDoorPx32
import Derived.Test.YtjcmafoepabpkaaDoorPx33
import Derived.Test.YtjcmafoepabpkaaDoorPx34
import Derived.Test.YtjcmafoepabpkaaDoorPx35
import Derived.Test.YtjcmafoepabpkaaDoorPx36
import Derived.Test.YtjcmafoepabpkaaDoorHA2
import Derived.Test.YtjcmafoepabpkaaDoorHA3
import Derived.Test.YtjcmafoepabpkaaDoorHA1
import Derived.Test.YtjcmafoepabpkaaDoorHA4
import Derived.Test.YtjcmafoepabpkaaDoorHA5
import Derived.Test.YtjcmafoepabpkaaDoorHA6
import Derived.Test.YtjcmafoepabpkaaDoorKFnExactCheckSig
namespace Go.Proofs.YtjcmafoepabpkaaDoor.Pure
set_option linter.unusedVariables false
open Go.RowKit Go.Proofs.YtjcmafoepabpkaaDoorW.PrintWords Go.Proofs.YtjcmafoepabpkaaDoorW.PrintLast Go.Proofs.YtjcmafoepabpkaaDoorW.PrintMore Go.Proofs.YtjcmafoepabpkaaDoor.P

theorem FnExactCheckSig (pub m : ByteArray) (x : Int) (a b : List ByteArray) (hp : pub.size ≤ 140737488351232) (hm : m.size ≤ 140737488351232) (_ : (Lit.int .i64 x).wf = true) (ha : a.length ≤ 9223372036854775807) (hsa : ∀ s ∈ a, s.size ≤ 9223372036854775807) (hb : b.length ≤ 9223372036854775807) (hsb : ∀ s ∈ b, s.size ≤ 9223372036854775807) :
    ∃ k, laws_FnExactCheckSig.f k pub m x a b = some true := by
  refine Ev.rounds ?_
  unfold laws_FnExactCheckSig.f
  by_cases h1 : (pub.size : Int) > 1048576
  · exact Ev.pos h1 (Ev.now _)
  by_cases h2 : (m.size : Int) > 1048576
  · exact Ev.neg h1 (Ev.pos h2 (Ev.now _))
  refine Ev.neg h1 (Ev.neg h2 ?_)
  obtain ⟨r, hr, hp⟩ := szSig_ev x a b 1048576 (by omega) (by omega) ha hb hsa hsb
  rcases hp with hp | ⟨p0, _, pa, pb, _, _⟩
  · exact Ev.bind hr (Ev.pos hp (Ev.now _))
  · obtain ⟨c, f1, f2⟩ := check_same pub m x a b (by omega) (by omega) (by omega)
    have t := toSig_ev x a b (by omega) (by omega)
    have q := eqSig_refl x a b (by omega) (by omega)
    exact Ev.bind hr (Ev.neg (by omega) (Ev.bind t (Ev.bind f1 (Ev.bind t (Ev.bind f2 (Ev.neg (by simp) (Ev.bind t (Ev.bind q (Ev.pos rfl (Ev.now _))))))))))
end Go.Proofs.YtjcmafoepabpkaaDoor.Pure
