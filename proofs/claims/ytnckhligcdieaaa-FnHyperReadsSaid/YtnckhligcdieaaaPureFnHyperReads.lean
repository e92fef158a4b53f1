/- The law on the reading of signatures of trees of trees: what is read is written so; the program's index of a drawn one is the reference's. -/
import Derived.Test.YtnckhligcdieaaaPx0
import Derived.Test.YtnckhligcdieaaaV0
import Derived.Laws.BitsAllLaws
import Derived.Laws.BitsLemmas
import Derived.Test.YtnckhligcdieaaaHA5
import Derived.Test.YtnckhligcdieaaaMW3
import Derived.Test.YtnckhligcdieaaaPx1
import Derived.Test.YtnckhligcdieaaaPx2
import Derived.Test.YtnckhligcdieaaaPx3
import Derived.Test.YtnckhligcdieaaaPx4
import Derived.Test.YtnckhligcdieaaaPx5
import Derived.Test.YtnckhligcdieaaaPx10
import Derived.Test.YtnckhligcdieaaaPx11
import Derived.Test.YtnckhligcdieaaaPx12
import Derived.Test.YtnckhligcdieaaaPx13
import Derived.Test.YtnckhligcdieaaaPx14
import Derived.Test.YtnckhligcdieaaaHC1
import Derived.Test.YtnckhligcdieaaaHA5
import Derived.Test.YtnckhligcdieaaaKFnHyperReads
namespace Go.Proofs.Ytnckhligcdieaaa.Pure
set_option linter.unusedVariables false
open Go.RowKit Go.Proofs.YtnckhligcdieaaaW.PrintWords Go.Proofs.YtnckhligcdieaaaW.PrintLast Go.Proofs.YtnckhligcdieaaaW.PrintMore Go.Proofs.Ytnckhligcdieaaa.P

theorem hyperText_size (x : Int) (a b : List ByteArray) (s : ByteArray) (y : Int) (c d : List ByteArray) : (hyperTextR x a b s y c d).1.size ≤ 1000000 := by
 unfold hyperTextR
 split
 ·rename_i h1
  split
  ·rename_i h2
   split
   ·rename_i h3
    have := sigTextR_size h1
    have := sigTextR_size h2
    show (((sigTextR x a b).1 ++ s) ++ (sigTextR y c d).1).size ≤ 1000000
    rw [ByteArray.size_append, ByteArray.size_append]
    omega
   ·show (0 : Nat) ≤ 1000000
    omega
  ·show (0 : Nat) ≤ 1000000
   omega
 ·show (0 : Nat) ≤ 1000000
  omega
theorem drawReadHyper_so (l : List Int) (hl : l.length ≤ 1048576) : ∃ t : ByteArray, Ev (fun k => spec_DrawReadHyper.f k l) t := by
 obtain ⟨h, e0, c0⟩ := new_some l hl
 obtain ⟨s, m, x, a, b, r, y, c, d, i1, h1, hx, hy, a1, b1, cc, dd, r1, e1, c1⟩ := hyper_so l 0 h c0
 have e2 := spec_HyperText_ev x a b r y c d hx.1 hx.2 hy.1 hy.2
 obtain ⟨t, i2, h2, e3, _, _⟩ := spoilt_some l i1 h1 (hyperTextR x a b r y c d).1 c1 (hyperText_size x a b r y c d)
 refine ⟨t, ?_⟩
 unfold spec_DrawReadHyper.f
 exact Ev.bind e0 (Ev.bind e1 (Ev.bind e2 (Ev.bind e3 (Ev.now _))))
theorem drawHyperIndex_so (l : List Int) (hl : l.length ≤ 1048576) : ∃ (x : Int) (a b : List ByteArray) (r : ByteArray) (y : Int) (c d : List ByteArray), a.length ≤ 10 ∧ b.length ≤ 2 ∧ c.length ≤ 10 ∧ d.length ≤ 2 ∧ Ev (fun k => spec_DrawHyperIndex.f k l) (x, a, b, r, y, c, d) := by
 obtain ⟨h, e0, c0⟩ := new_some l hl
 obtain ⟨s, m, x, a, b, r, y, c, d, i1, h1, hx, hy, a1, b1, cc, dd, r1, e1, c1⟩ := hyper_so l 0 h c0
 refine ⟨x, a, b, r, y, c, d, a1, b1, cc, dd, ?_⟩
 unfold spec_DrawHyperIndex.f
 exact Ev.bind e0 (Ev.bind e1 (Ev.now _))
/-- What is read is a signature of the right form, and is written so. -/
theorem hyper_read {t : ByteArray} (h : (readHyperR t).2.2.2.2.2.2.2 = true) :
  hyperTextR (readHyperR t).1 (readHyperR t).2.1 (readHyperR t).2.2.1 (readHyperR t).2.2.2.1 (readHyperR t).2.2.2.2.1 (readHyperR t).2.2.2.2.2.1 (readHyperR t).2.2.2.2.2.2.1 = (t, true) ∧
  hyperIndexR (readHyperR t).1 (readHyperR t).2.1 (readHyperR t).2.2.1 (readHyperR t).2.2.2.2.1 (readHyperR t).2.2.2.2.2.1 (readHyperR t).2.2.2.2.2.2.1 ≥ 0 := by
 by_cases q : t.size = 102 ∧ (readSigR (t.extract 0 49)).2.2.2 = true ∧ (readSigR (t.extract 53 102)).2.2.2 = true
 ·rw [readHyperR_pos t q.1 q.2.1 q.2.2]
  obtain ⟨o1, w1⟩ := text_read q.2.1
  obtain ⟨o2, w2⟩ := text_read q.2.2
  have hs : ((t.extract 49 53).size : Int) = 4 := by rw [ByteArray.size_extract]; omega
  have x1 := (sigOk_all o1).1
  have y1 := (sigOk_all o2).1
  dsimp only at x1 y1 ⊢
  constructor
  ·unfold hyperTextR
   rw [w1, w2]
   simp only [if_pos hs, if_true]
   refine Prod.ext ?_ rfl
   apply bytes_ext
   show (((t.extract 0 49) ++ (t.extract 49 53)) ++ (t.extract 53 102)).data.toList = t.data.toList
   have hl := dl_len t
   rw [dl_append, dl_append, dl_extract, dl_extract, dl_extract, List.drop_zero]
   have e1 : List.take (53 - 49) (List.drop 49 t.data.toList) ++ List.drop 53 t.data.toList = List.drop 49 t.data.toList := by
    have := List.take_append_drop (53 - 49) (List.drop 49 t.data.toList)
    rwa [List.drop_drop] at this
   have e2 : List.take (102 - 53) (List.drop 53 t.data.toList) = List.drop 53 t.data.toList := List.take_of_length_le (by rw [List.length_drop]; omega)
   rw [e2, List.append_assoc, e1]
   exact List.take_append_drop (49 - 0) _
  ·unfold hyperIndexR
   rw [if_pos o1, if_pos o2]
   omega
 ·rw [readHyperR_neg t q] at h
  exact absurd h (by decide)
theorem FnHyperReads : laws_FnHyperReads.Pure := by
 intro l _ _ _
 refine Ev.rounds ?_
 unfold laws_FnHyperReads.f
 by_cases hb : (l.length : Int) > 1048576
 ·exact Ev.then (a := true) (by unfold laws_big.f; rw [decide_eq_true hb]) (Ev.pos rfl (Ev.now _))
 refine Ev.then (a := false) (by unfold laws_big.f; rw [decide_eq_false hb]) (Ev.neg (by decide) ?_)
 obtain ⟨t, e1⟩ := drawReadHyper_so l (by omega)
 obtain ⟨q1, q2, q3, q4⟩ := readHyperR_len t
 have e2 := impl_ReadHyper_ev t
 have e3 := spec_ReadHyper_ev t
 have e4 := impl_HyperText_ev (readHyperR t).1 (readHyperR t).2.1 (readHyperR t).2.2.1 (readHyperR t).2.2.2.1 (readHyperR t).2.2.2.2.1 (readHyperR t).2.2.2.2.2.1 (readHyperR t).2.2.2.2.2.2.1 (by omega) (by omega) (by omega) (by omega)
 have e5 := impl_HyperIndex_ev (readHyperR t).1 (readHyperR t).2.1 (readHyperR t).2.2.1 (readHyperR t).2.2.2.1 (readHyperR t).2.2.2.2.1 (readHyperR t).2.2.2.2.2.1 (readHyperR t).2.2.2.2.2.2.1 (by omega) (by omega) (by omega) (by omega)
 obtain ⟨x, a, b, r, y, c, d, a1, b1, c1, d1, e6⟩ := drawHyperIndex_so l (by omega)
 have e7 := impl_HyperIndex_ev x a b r y c d (by omega) (by omega) (by omega) (by omega)
 have e8 := spec_HyperIndex_ev x a b r y c d
 have fin : Ev (fun k => (impl_HyperIndex.f k x a b r y c d).bind fun t716 => ((spec_HyperIndex.f k x a b r y c d).bind fun t717 => (some (t716 == t717)))) true := by
  refine Ev.bind e7 (Ev.bind e8 ?_)
  simp only [beq_self_eq_true]
  exact Ev.now _
 refine Ev.bind e1 (Ev.bind e2 (Ev.bind e3 (Ev.bind e4 (Ev.bind e6 (Ev.pos (by simp) ?_)))))
 by_cases h : (readHyperR t).2.2.2.2.2.2.2 = true
 ·obtain ⟨w1, w2⟩ := hyper_read h
  refine Ev.pos h ?_
  rw [w1]
  exact Ev.pos rfl (Ev.bind e5 (Ev.pos w2 fin))
 ·exact Ev.neg h fin
end Go.Proofs.Ytnckhligcdieaaa.Pure
