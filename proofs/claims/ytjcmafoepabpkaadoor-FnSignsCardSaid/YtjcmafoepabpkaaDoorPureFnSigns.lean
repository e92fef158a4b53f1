/- The law on signatures: a signature of each leaf of a drawn key is right for its text; it comes back from its bytes. -/
import Derived.Test.YtjcmafoepabpkaaDoorPx0
import Derived.Test.YtjcmafoepabpkaaDoorV0
import Derived.Test.YtjcmafoepabpkaaDoorHA2
import Derived.Test.YtjcmafoepabpkaaDoorHA3
import Derived.Laws.BitsAllLaws
import Derived.Laws.BitsLemmas
import Derived.Test.YtjcmafoepabpkaaDoorHA4
import Derived.Test.YtjcmafoepabpkaaDoorHA5
import Derived.Test.YtjcmafoepabpkaaDoorMW3
import Derived.Test.YtjcmafoepabpkaaDoorPx1
import Derived.Test.YtjcmafoepabpkaaDoorPx2
import Derived.Test.YtjcmafoepabpkaaDoorPx4
import Derived.Test.YtjcmafoepabpkaaDoorPx5
import Derived.Test.YtjcmafoepabpkaaDoorPx6
import Derived.Test.YtjcmafoepabpkaaDoorPx9
import Derived.Test.YtjcmafoepabpkaaDoorPx10
import Derived.Test.YtjcmafoepabpkaaDoorPx11
import Derived.Test.YtjcmafoepabpkaaDoorPx12
import Derived.Test.YtjcmafoepabpkaaDoorPx13
import Derived.Test.YtjcmafoepabpkaaDoorPx16
import Derived.Test.YtjcmafoepabpkaaDoorPx17
import Derived.Test.YtjcmafoepabpkaaDoorHA2
import Derived.Test.YtjcmafoepabpkaaDoorHA3
import Derived.Test.YtjcmafoepabpkaaDoorHA1
import Derived.Test.YtjcmafoepabpkaaDoorHA4
import Derived.Test.YtjcmafoepabpkaaDoorHA5
import Derived.Test.YtjcmafoepabpkaaDoorHA6
import Derived.Test.YtjcmafoepabpkaaDoorKFnSigns
namespace Go.Proofs.YtjcmafoepabpkaaDoor.Pure
set_option linter.unusedVariables false
open Go.RowKit Go.Proofs.YtjcmafoepabpkaaDoorW.PrintWords Go.Proofs.YtjcmafoepabpkaaDoorW.PrintLast Go.Proofs.YtjcmafoepabpkaaDoorW.PrintMore Go.Proofs.YtjcmafoepabpkaaDoor.P

theorem sameTexts_refl (l : List ByteArray) (hl : l.length ≤ 1000000) : Ev (fun k => laws_sameTexts.f k l l) true := by
  unfold laws_sameTexts.f
  refine Ev.pos rfl ?_
  refine Ev.up (g := fun i k => laws_sameTexts.l0 k l l (i : Int)) (r := true) l.length ?_ ?_ 0 (by omega)
  · intro i hi h
    refine Ev.step (fun k => ?_) h
    simp only [laws_sameTexts.l0]
    rw [if_pos (by omega), if_pos (by omega), if_pos (by omega), if_pos trivial, w64s i (by omega)]
  · exact Ev.step (f := fun _ => some true) (fun k => by simp only [laws_sameTexts.l0]; rw [if_neg (by omega)]) (Ev.now _)
theorem signAt_four (seed m : ByteArray) (n : Int) (hn : ¬ (0 ≤ n ∧ n ≤ 3)) : Ev (fun k => impl_SignAt.f k seed n m) (0, [], [], false) := by
  unfold impl_SignAt.f
  exact Ev.then (impl_in_eq _ _ _) (Ev.neg (by rw [decide_eq_false hn]; decide) (Ev.now _))
theorem FnSigns : laws_FnSigns.Pure := by
  intro l _ _ _
  refine Ev.rounds ?_
  unfold laws_FnSigns.f
  by_cases hb : (l.length : Int) > 1048576
  · exact Ev.then (a := true) (by unfold laws_big.f; rw [decide_eq_true hb]) (Ev.pos rfl (Ev.now _))
  refine Ev.then (a := false) (by unfold laws_big.f; rw [decide_eq_false hb]) (Ev.neg (by decide) ?_)
  obtain ⟨seed, p, m, hs, hm, e1⟩ := drawSignAt_some l (by omega)
  obtain ⟨ps, e2, pl, pr⟩ := places_some l (by omega)
  refine Ev.bind e1 (Ev.bind e2 (Ev.pos (by omega) ?_))
  have r0 := pr (rd ps 0) (by rw [show (0 : Int) = ((0 : Nat) : Int) from rfl, rd_get ps 0 (by omega)]; exact List.getElem_mem _)
  obtain ⟨u0, u1⟩ := tmod_range (x := rd ps 0) (n := 4) r0.1 (by decide)
  obtain ⟨u, hu⟩ := Int.eq_ofNat_of_zero_le u0
  simp only [hu]
  obtain ⟨a, b, pub, ok, p4, f1, _, f3, f4, f5⟩ := signAt_val seed u (by omega) m (by omega) (by omega)
  obtain ⟨_, a1, _, b1, _⟩ := sigOk_all ok
  have g1 := impl_SigText_ev (u : Int) a b (by omega) (by omega)
  have ht : sigTextR (u : Int) a b = (catL (catL (byteV (u : Int)) a) b, true) := if_pos ok
  rw [ht] at g1
  have g2 := impl_ReadSig_ev (catL (catL (byteV (u : Int)) a) b)
  rw [read_text ok] at g2
  have g3 := signAt_four seed m 4 (by omega)
  have g4 := impl_SigOk_ev (u : Int) a b (by omega) (by omega)
  rw [ok] at g4
  have qa := sameTexts_refl a (by omega)
  have qb := sameTexts_refl b (by omega)
  refine Ev.bind f3 (Ev.bind f1 (Ev.bind g1 (Ev.bind g2 (Ev.bind g3 ?_))))
  exact Ev.pos rfl (Ev.pos rfl (Ev.pos rfl (Ev.neg (by simp) (Ev.bind g4 (Ev.pos rfl (Ev.pos rfl (Ev.bind f4 (Ev.pos rfl (Ev.bind f5 (Ev.pos rfl (Ev.pos rfl (Ev.bind qa (Ev.pos rfl (Ev.bind qb (Ev.now _)))))))))))))))
end Go.Proofs.YtjcmafoepabpkaaDoor.Pure
