/- The law on once keys: a signature by a drawn key is found to be of it. -/
import Derived.Test.YtjcmafoepabpkaaDoorPx0
import Derived.Test.YtjcmafoepabpkaaDoorV0
import Derived.Test.YtjcmafoepabpkaaDoorHA2
import Derived.Test.YtjcmafoepabpkaaDoorHA3
import Derived.Laws.BitsAllLaws
import Derived.Laws.BitsLemmas
import Derived.Test.YtjcmafoepabpkaaDoorHA4
import Derived.Test.YtjcmafoepabpkaaDoorHA5
import Derived.Test.YtjcmafoepabpkaaDoorMW3
import Derived.Test.YtjcmafoepabpkaaDoorPx2
import Derived.Test.YtjcmafoepabpkaaDoorPx3
import Derived.Test.YtjcmafoepabpkaaDoorPx5
import Derived.Test.YtjcmafoepabpkaaDoorPx6
import Derived.Test.YtjcmafoepabpkaaDoorPx7
import Derived.Test.YtjcmafoepabpkaaDoorPx9
import Derived.Test.YtjcmafoepabpkaaDoorPx23
import Derived.Test.YtjcmafoepabpkaaDoorPx24
import Derived.Test.YtjcmafoepabpkaaDoorPx26
import Derived.Test.YtjcmafoepabpkaaDoorPx27
import Derived.Test.YtjcmafoepabpkaaDoorPx28
import Derived.Test.YtjcmafoepabpkaaDoorPx29
import Derived.Test.YtjcmafoepabpkaaDoorPx30
import Derived.Test.YtjcmafoepabpkaaDoorHA2
import Derived.Test.YtjcmafoepabpkaaDoorHA3
import Derived.Test.YtjcmafoepabpkaaDoorHA1
import Derived.Test.YtjcmafoepabpkaaDoorHA4
import Derived.Test.YtjcmafoepabpkaaDoorHA5
import Derived.Test.YtjcmafoepabpkaaDoorHA6
import Derived.Test.YtjcmafoepabpkaaDoorKFnOnce
namespace Go.Proofs.YtjcmafoepabpkaaDoor.Pure
set_option linter.unusedVariables false
open Go.RowKit Go.Proofs.YtjcmafoepabpkaaDoorW.PrintWords Go.Proofs.YtjcmafoepabpkaaDoorW.PrintLast Go.Proofs.YtjcmafoepabpkaaDoorW.PrintMore Go.Proofs.YtjcmafoepabpkaaDoor.P

theorem sameTexts_refl (l : List ByteArray) (hl : l.length ≤ 1000000) : Ev (fun k => laws_sameTexts.f k l l) true := by
  unfold laws_sameTexts.f
  refine Ev.pos rfl ?_
  refine Ev.up (g := fun i k => laws_sameTexts.l0 k l l (i : Int)) (r := true) l.length ?_ ?_ 0 (by omega)
  · intro i hi h
    refine Ev.step (fun k => ?_) h
    simp only [laws_sameTexts.l0]
    rw [if_pos (by omega), if_pos (by omega), if_pos (by omega), if_pos trivial, w64s i (by omega)]
  · exact Ev.step (f := fun _ => some true) (fun k => by simp only [laws_sameTexts.l0]; rw [if_neg (by omega)]) (Ev.now _)
theorem drawOnceSign_some (l : List Int) (hl : l.length ≤ 1048576) : ∃ (ks : List ByteArray) (p : Int) (m : ByteArray), (ks.length = 10 ∨ ks.length = 9) ∧ (∀ s ∈ ks, s.size = 4) ∧ m.size ≤ 2000 ∧ Ev (fun k => spec_DrawOnceSign.f k l) (ks, p, m) := by
  obtain ⟨h, e0, c0⟩ := new_some l hl
  obtain ⟨n, i1, h1, e1, n0, n1, c1⟩ := below_some l 0 h 5 c0 (by decide)
  obtain ⟨t, i2, h2, e2, ts, c2⟩ := text_some l i1 h1 n c1 (by omega)
  obtain ⟨q, i3, h3, e3, _, _, c3⟩ := below_some l i2 h2 4 c2 (by decide)
  obtain ⟨ks, k1, k2, e4, _⟩ := onceKey_same t q (by omega)
  obtain ⟨b, i5, h5, e5, c5⟩ := once_some l i3 h3 12 c3 (by decide)
  obtain ⟨p, i6, h6, e6, c6⟩ := place_some l i5 h5 4 c5 (by decide)
  obtain ⟨m, i7, h7, m2, e7, c7⟩ := text05_some l i6 h6 c6
  cases b with
  | true =>
    refine ⟨ks.drop 1, p, m, .inr (by simp; omega), fun s hs => k2 s (List.mem_of_mem_drop hs), m2, ?_⟩
    unfold spec_DrawOnceSign.f
    refine Ev.bind e0 (Ev.bind (a := (ks.drop 1, i5, h5)) ?_ (Ev.then e6 (Ev.bind e7 (Ev.now _))))
    unfold spec_l14Keys.f
    exact Ev.then e1 (Ev.bind e2 (Ev.then e3 (Ev.bind e4 (Ev.then e5 (Ev.pos rfl (Ev.pos (by omega) (Ev.now _)))))))
  | false =>
    refine ⟨ks, p, m, .inl k1, k2, m2, ?_⟩
    unfold spec_DrawOnceSign.f
    refine Ev.bind e0 (Ev.bind (a := (ks, i5, h5)) ?_ (Ev.then e6 (Ev.bind e7 (Ev.now _))))
    unfold spec_l14Keys.f
    exact Ev.then e1 (Ev.bind e2 (Ev.then e3 (Ev.bind e4 (Ev.then e5 (Ev.neg (by simp) (Ev.now _))))))
theorem FnOnce : laws_FnOnce.Pure := by
  intro l _ _ _
  refine Ev.rounds ?_
  unfold laws_FnOnce.f
  by_cases hb : (l.length : Int) > 1048576
  · exact Ev.then (a := true) (by unfold laws_big.f; rw [decide_eq_true hb]) (Ev.pos rfl (Ev.now _))
  refine Ev.then (a := false) (by unfold laws_big.f; rw [decide_eq_false hb]) (Ev.neg (by decide) ?_)
  obtain ⟨ks, p, m, hk, k4, hm, e1⟩ := drawOnceSign_some l (by omega)
  refine Ev.bind e1 ?_
  by_cases h : ks.length = 10
  · obtain ⟨r, d, r1, _, d4, f1, f2, f3⟩ := once_val ks p m h (fun s hs => by rw [k4 s hs]; decide) (by omega)
    obtain ⟨w, _, g1, g2⟩ := public_same ks p (fun s hs => by rw [k4 s hs]; decide)
    obtain rfl : w = d := ev_uniq g2 f3
    obtain ⟨ts, t1, _, q1, q2⟩ := onceKey_same (⟨#[115, 101, 101, 100]⟩ : ByteArray) p (by decide)
    have q := sameTexts_refl ts (by omega)
    refine Ev.bind f1 (Ev.bind f3 (Ev.pos (by show (ks.length : Int) = 10; omega) (Ev.bind q2 (Ev.bind f2 (Ev.pos rfl (Ev.pos (by omega) (Ev.bind g1 (Ev.pos rfl (Ev.pos (by omega) (Ev.bind q1 (Ev.bind q (Ev.now _))))))))))))
  · have f1 : Ev (fun k => impl_OnceSign.f k ks p m) [] := by
      unfold impl_OnceSign.f
      exact Ev.neg (by omega) (Ev.now _)
    have f3 : Ev (fun k => impl_OncePublic.f k ks p) (⟨#[]⟩ : ByteArray) := by
      unfold impl_OncePublic.f
      refine Ev.bind (a := (⟨#[]⟩ : ByteArray)) ?_ (Ev.now _)
      unfold impl_chopped_OncePublic_1_OncePublic_2.f
      exact Ev.neg (by omega) (Ev.now _)
    have he : (⟨#[]⟩ : ByteArray).toList = ([] : List UInt8) := by simp
    refine Ev.bind f1 (Ev.bind f3 (Ev.neg (by show ¬ (ks.length : Int) = 10; omega) (Ev.pos rfl ?_)))
    rw [he]
    exact Ev.now _
end Go.Proofs.YtjcmafoepabpkaaDoor.Pure
