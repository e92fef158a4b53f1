/- The law on checks: what is told of a drawn signature, spoilt or not, is what the document tells. -/
import Derived.Test.YtjcmafoepabpkaaDoorPx0
import Derived.Test.YtjcmafoepabpkaaDoorV0
import Derived.Test.YtjcmafoepabpkaaDoorHA2
import Derived.Test.YtjcmafoepabpkaaDoorHA3
import Derived.Laws.BitsAllLaws
import Derived.Laws.BitsLemmas
import Derived.Test.YtjcmafoepabpkaaDoorHA4
import Derived.Test.YtjcmafoepabpkaaDoorHA5
import Derived.Test.YtjcmafoepabpkaaDoorMW3
import Derived.Test.YtjcmafoepabpkaaDoorPx1
import Derived.Test.YtjcmafoepabpkaaDoorPx2
import Derived.Test.YtjcmafoepabpkaaDoorPx4
import Derived.Test.YtjcmafoepabpkaaDoorPx7
import Derived.Test.YtjcmafoepabpkaaDoorPx9
import Derived.Test.YtjcmafoepabpkaaDoorPx10
import Derived.Test.YtjcmafoepabpkaaDoorPx11
import Derived.Test.YtjcmafoepabpkaaDoorPx12
import Derived.Test.YtjcmafoepabpkaaDoorPx13
import Derived.Test.YtjcmafoepabpkaaDoorPx16
import Derived.Test.YtjcmafoepabpkaaDoorPx18
import Derived.Test.YtjcmafoepabpkaaDoorPx22
import Derived.Test.YtjcmafoepabpkaaDoorPx23
import Derived.Test.YtjcmafoepabpkaaDoorPx24
import Derived.Test.YtjcmafoepabpkaaDoorHA2
import Derived.Test.YtjcmafoepabpkaaDoorHA3
import Derived.Test.YtjcmafoepabpkaaDoorHA1
import Derived.Test.YtjcmafoepabpkaaDoorHA4
import Derived.Test.YtjcmafoepabpkaaDoorHA5
import Derived.Test.YtjcmafoepabpkaaDoorHA6
import Derived.Test.YtjcmafoepabpkaaDoorKFnChecks
namespace Go.Proofs.YtjcmafoepabpkaaDoor.Pure
set_option linter.unusedVariables false
open Go.RowKit Go.Proofs.YtjcmafoepabpkaaDoorW.PrintWords Go.Proofs.YtjcmafoepabpkaaDoorW.PrintLast Go.Proofs.YtjcmafoepabpkaaDoorW.PrintMore Go.Proofs.YtjcmafoepabpkaaDoor.P

theorem drawCheck_j0 (l : List Int) (seed m : ByteArray) (x : Int) (a b : List ByteArray) (i h : Int) (hc : Cur l i) (hs : seed.size ≤ 4) : ∃ pub : ByteArray, Ev (fun k => spec_DrawCheckSig.j0 k seed m l i h x a b) (pub, m, x, a, b) := by
 obtain ⟨c, i1, h1, e1, _⟩ := once_some l i h 8 hc (by decide)
 obtain ⟨d, _, f1, _⟩ := publicOf_same seed (by omega)
 cases c with
 | true =>
  refine ⟨(⟨#[97, 98, 99, 100]⟩ : ByteArray), ?_⟩
  refine Ev.step (fun k => by simp only [spec_DrawCheckSig.j0]; rfl) ?_
  exact Ev.then e1 (Ev.pos rfl (Ev.now _))
 | false =>
  refine ⟨d, ?_⟩
  refine Ev.step (fun k => by simp only [spec_DrawCheckSig.j0]; rfl) ?_
  exact Ev.then e1 (Ev.neg (by simp) (Ev.bind f1 (Ev.now _)))
theorem drawCheck_some (l : List Int) (hl : l.length ≤ 1048576) : ∃ (pub m : ByteArray) (x : Int) (a b : List ByteArray), m.size ≤ 10 ∧ a.length ≤ 10 ∧ b.length ≤ 2 ∧ Ev (fun k => spec_DrawCheckSig.f k l) (pub, m, x, a, b) := by
 obtain ⟨h, e0, c0⟩ := new_some l hl
 obtain ⟨s, m, x, a, b, i1, h1, s4, m3, _, a1, b1, e1, c1⟩ := sig_some l 0 h c0
 obtain ⟨o, i2, h2, e2, c2⟩ := once_some l i1 h1 6 c1 (by decide)
 have hx : (m ++ (⟨#[120]⟩ : ByteArray)).size = m.size + 1 := by rw [ByteArray.size_append]; rfl
 unfold spec_DrawCheckSig.f
 cases o with
 | true =>
  obtain ⟨pub, e3⟩ := drawCheck_j0 l s (m ++ (⟨#[120]⟩ : ByteArray)) x a b i2 h2 c2 s4
  exact ⟨pub, _, x, a, b, by omega, a1, b1, Ev.bind e0 (Ev.bind e1 (Ev.then e2 (Ev.pos rfl (Ev.pos (by show m.size + 1 ≤ 9223372036854775807; omega) e3))))⟩
 | false =>
  obtain ⟨pub, e3⟩ := drawCheck_j0 l s m x a b i2 h2 c2 s4
  exact ⟨pub, _, x, a, b, by omega, a1, b1, Ev.bind e0 (Ev.bind e1 (Ev.then e2 (Ev.neg (by simp) e3)))⟩
theorem sigText_size (x : Int) (a b : List ByteArray) : (sigTextR x a b).1.size ≤ 1000000 := by
 unfold sigTextR
 split
 ·rename_i h
  obtain ⟨_, ha, ha4, hb, hb4⟩ := sigOk_all h
  show (catL (catL (byteV x) a) b).size ≤ 1000000
  rw [catL_size _ b 4 hb4, catL_size _ a 4 ha4, byteV_size]
  omega
 ·show (0 : Nat) ≤ 1000000
  omega
theorem drawRead_some (l : List Int) (hl : l.length ≤ 1048576) : ∃ t : ByteArray, Ev (fun k => spec_DrawReadSig.f k l) t := by
 obtain ⟨h, e0, c0⟩ := new_some l hl
 obtain ⟨s, m, x, a, b, i1, h1, s4, m3, hx, a1, b1, e1, c1⟩ := sig_some l 0 h c0
 have e2 := spec_SigText_ev x a b hx.1 hx.2
 obtain ⟨t, i2, h2, e3, _, _⟩ := spoilt_some l i1 h1 (sigTextR x a b).1 c1 (sigText_size x a b)
 refine ⟨t, ?_⟩
 unfold spec_DrawReadSig.f
 exact Ev.bind e0 (Ev.bind e1 (Ev.bind e2 (Ev.bind e3 (Ev.now _))))
theorem checks_j0 (l : List Int) (hl : l.length ≤ 1048576) : Ev (fun k => laws_FnChecks.j0 k l false) true := by
 obtain ⟨t, e1⟩ := drawRead_some l hl
 obtain ⟨q1, q2⟩ := readSigR_len t
 have e2 := impl_ReadSig_ev t
 have e3 := spec_ReadSig_ev t
 have e4 := impl_SigText_ev (readSigR t).1 (readSigR t).2.1 (readSigR t).2.2.1 (by omega) (by omega)
 refine Ev.step (fun k => by simp only [laws_FnChecks.j0]; rw [if_neg (by decide)]) ?_
 refine Ev.bind e1 (Ev.bind e2 (Ev.bind e3 (Ev.bind e4 (Ev.pos (by simp) ?_))))
 by_cases h : (readSigR t).2.2.2 = true
 ·refine Ev.pos h ?_
  rw [(text_read h).2]
  simp only [beq_self_eq_true]
  exact Ev.now _
 ·exact Ev.neg h (Ev.now _)
theorem FnChecks : laws_FnChecks.Pure := by
 intro l _ _ _
 refine Ev.rounds ?_
 unfold laws_FnChecks.f
 by_cases hb : (l.length : Int) > 1048576
 ·exact Ev.then (a := true) (by unfold laws_big.f; rw [decide_eq_true hb]) (Ev.pos rfl (Ev.now _))
 refine Ev.then (a := false) (by unfold laws_big.f; rw [decide_eq_false hb]) (Ev.neg (by decide) ?_)
 obtain ⟨pub, m, x, a, b, m1, a1, b1, e1⟩ := drawCheck_some l (by omega)
 obtain ⟨c, f1, f2⟩ := check_same pub m x a b (by omega) (by omega) (by omega)
 have s1 := spec_SigOk_ev x a b
 have s2 := impl_SigOk_ev x a b (by omega) (by omega)
 have j := checks_j0 l (by omega)
 refine Ev.bind e1 (Ev.bind f2 (Ev.bind f1 (Ev.neg (by simp) (Ev.bind s2 (Ev.bind s1 (Ev.neg (by simp) ?_))))))
 cases c with
 | false => exact Ev.neg (by simp) j
 | true =>
  refine Ev.pos rfl (Ev.bind s1 ?_)
  have ok : sigOk x a b = true := by
   by_cases h : sigOk x a b = true
   ·exact h
   ·have : Ev (fun k => impl_CheckSig.f k pub m x a b) false := by
     unfold impl_CheckSig.f
     exact Ev.bind s2 (Ev.neg h (Ev.now _))
    exact absurd (ev_uniq f2 this) (by decide)
  rw [ok]
  exact j
end Go.Proofs.YtjcmafoepabpkaaDoor.Pure
