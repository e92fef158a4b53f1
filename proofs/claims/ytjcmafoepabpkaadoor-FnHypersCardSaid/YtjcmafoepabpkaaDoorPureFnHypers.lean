/- The law on trees of trees: a signature of each index is right for its text, tells its index, and comes back from its bytes. -/
import Derived.Test.YtjcmafoepabpkaaDoorPx0
import Derived.Test.YtjcmafoepabpkaaDoorV0
import Derived.Test.YtjcmafoepabpkaaDoorHA2
import Derived.Test.YtjcmafoepabpkaaDoorHA3
import Derived.Laws.BitsAllLaws
import Derived.Laws.BitsLemmas
import Derived.Test.YtjcmafoepabpkaaDoorHA4
import Derived.Test.YtjcmafoepabpkaaDoorHA5
import Derived.Test.YtjcmafoepabpkaaDoorMW3
import Derived.Test.YtjcmafoepabpkaaDoorPx1
import Derived.Test.YtjcmafoepabpkaaDoorPx2
import Derived.Test.YtjcmafoepabpkaaDoorPx3
import Derived.Test.YtjcmafoepabpkaaDoorPx4
import Derived.Test.YtjcmafoepabpkaaDoorPx5
import Derived.Test.YtjcmafoepabpkaaDoorPx6
import Derived.Test.YtjcmafoepabpkaaDoorPx7
import Derived.Test.YtjcmafoepabpkaaDoorHA2
import Derived.Test.YtjcmafoepabpkaaDoorHA3
import Derived.Test.YtjcmafoepabpkaaDoorHA1
import Derived.Test.YtjcmafoepabpkaaDoorHA4
import Derived.Test.YtjcmafoepabpkaaDoorHA5
import Derived.Test.YtjcmafoepabpkaaDoorHA6
import Derived.Test.YtjcmafoepabpkaaDoorKFnHypers
namespace Go.Proofs.YtjcmafoepabpkaaDoor.Pure
set_option linter.unusedVariables false
open Go.RowKit Go.Proofs.YtjcmafoepabpkaaDoorW.PrintWords Go.Proofs.YtjcmafoepabpkaaDoorW.PrintLast Go.Proofs.YtjcmafoepabpkaaDoorW.PrintMore Go.Proofs.YtjcmafoepabpkaaDoor.P

theorem FnHypers : laws_FnHypers.Pure := by
 intro l _ _ _
 refine Ev.rounds ?_
 unfold laws_FnHypers.f
 by_cases hb : (l.length : Int) > 1048576
 ·exact Ev.then (a := true) (by unfold laws_big.f; rw [decide_eq_true hb]) (Ev.pos rfl (Ev.now _))
 refine Ev.then (a := false) (by unfold laws_big.f; rw [decide_eq_false hb]) (Ev.neg (by decide) ?_)
 obtain ⟨seed, p, m, hs, hm, e1⟩ := drawHyperSign_some l (by omega)
 obtain ⟨ps, e2, pl, pr⟩ := places_some l (by omega)
 refine Ev.bind e1 (Ev.bind e2 (Ev.pos (by omega) ?_))
 have r0 := pr (rd ps 0) (by rw [show (0 : Int) = ((0 : Nat) : Int) from rfl, rd_get ps 0 (by omega)]; exact List.getElem_mem _)
 obtain ⟨u0, u1⟩ := tmod_range (x := rd ps 0) (n := 16) r0.1 (by decide)
 obtain ⟨u, hu⟩ := Int.eq_ofNat_of_zero_le u0
 simp only [hu]
 obtain ⟨a, b, r, c, d, pub, ok1, ok2, r4, f1, f2, f3, f4, f5⟩ := hyperSign_val seed u (by omega) m (by omega) (by omega)
 obtain ⟨_, a1, _, b1, _⟩ := sigOk_all ok1
 obtain ⟨_, c1, _, d1, _⟩ := sigOk_all ok2
 have g1 := impl_HyperText_ev ((u / 4 : Nat) : Int) a b r ((u % 4 : Nat) : Int) c d (by omega) (by omega) (by omega) (by omega)
 obtain ⟨t, t1, t2⟩ := hyper_text ok1 ok2 r4
 rw [t1] at g1
 have g2 := impl_ReadHyper_ev t
 rw [t2] at g2
 have g3 := hyperSign_no seed m 16 (by omega)
 have g4 := impl_HyperIndex_ev ((u / 4 : Nat) : Int) a b r ((u % 4 : Nat) : Int) c d (by omega) (by omega) (by omega) (by omega)
 have hx : hyperIndexR ((u / 4 : Nat) : Int) a b ((u % 4 : Nat) : Int) c d = (u : Int) := by
  unfold hyperIndexR
  rw [if_pos ok1, if_pos ok2]
  clear hu
  omega
 rw [hx] at g4
 refine Ev.bind f2 (Ev.bind f1 (Ev.bind g1 (Ev.bind g2 (Ev.bind g3 (Ev.bind g1 ?_)))))
 refine Ev.pos rfl (Ev.pos rfl (Ev.pos rfl (Ev.neg (by simp) (Ev.bind f4 (Ev.pos rfl (Ev.bind f5 (Ev.pos rfl (Ev.bind g4 (Ev.pos rfl (Ev.pos (by simp) (Ev.bind f3 ?_)))))))))))
 simp only [beq_self_eq_true]
 exact Ev.now _
end Go.Proofs.YtjcmafoepabpkaaDoor.Pure
