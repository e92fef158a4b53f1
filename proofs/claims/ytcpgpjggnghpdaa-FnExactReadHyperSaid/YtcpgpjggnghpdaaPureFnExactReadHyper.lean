/- The law on ReadHyper: for every text the program and the reference answer the same signature of two trees and the same bool, new each time. -/
import Derived.Test.YtcpgpjggnghpdaaMH2
import Derived.Test.YtcpgpjggnghpdaaMI2
import Derived.Test.YtcpgpjggnghpdaaPx57
import Derived.Test.YtcpgpjggnghpdaaPx68
import Derived.Test.YtcpgpjggnghpdaaPx72
import Derived.Test.YtcpgpjggnghpdaaPx75
import Derived.Test.YtcpgpjggnghpdaaPx76
namespace Go.Proofs.Ytcpgpjggnghpdaa.Pure
open Go.RowKit Go.Proofs.YtcpgpjggnghpdaaW.PrintWords Go.Proofs.YtcpgpjggnghpdaaW.PrintLast Go.Proofs.YtcpgpjggnghpdaaW.PrintMore Go.Proofs.Ytcpgpjggnghpdaa.P

theorem readHyper_j1 (y y' n : Int) (m : ByteArray) (ts us vs ws : List ByteArray) (hn : 0 < n) (hh : Ev (fun k => laws_heldHyper.f k y ts us m y' vs ws 1) n) :
    Ev (fun k => laws_FnExactReadHyper.j1 k n false y ts us m y' vs ws) true := by
  refine Ev.step (f := fun k => (laws_heldHyper.f k y ts us m y' vs ws 1).bind fun t818 => (if t818 < 0 then (some false) else (if t818 = n then (some true) else (some false)))) (fun k => ?_) (Ev.bind hh (Ev.neg (by omega) (Ev.pos rfl (Ev.now _))))
  simp only [laws_FnExactReadHyper.j1]
  rw [if_neg (by simp)]
theorem FnExactReadHyper : laws_FnExactReadHyper.Pure := by
  intro s _
  refine Ev.rounds ?_
  unfold laws_FnExactReadHyper.f
  obtain ⟨l1, l2, l3, l4⟩ := readHyperR_len s
  have e1 := spec_ReadHyper_ev s
  have e2 := impl_ReadHyper_ev s
  generalize readHyperR s = R at l1 l2 l3 l4 e1 e2
  obtain ⟨x, a, b, m, x', c, d, o⟩ := R
  obtain ⟨n, ts, us, vs, ws, hn, hm, hh⟩ := marks_hyper x x x' x' m m a b c d l1 l2 l3 l4
  by_cases h : (s.size : Int) > 1048576
  · exact Ev.pos h (Ev.now _)
  · refine Ev.neg h (Ev.bind e1 (Ev.bind e2 (Ev.bind (eqHyper_refl x x' m a b c d l1 l2 l3 l4) (Ev.pos rfl ?_))))
    refine Ev.step (f := fun k => (laws_markHyper.f k x a b m x' c d 1).bind fun bt794 => ((laws_heldHyper.f k x bt794.2.1 bt794.2.2.1 m x' bt794.2.2.2.1 bt794.2.2.2.2 1).bind fun t799 => (if t799 < 0 then (some false) else (if t799 = bt794.1 then ((impl_ReadHyper.f k s).bind fun bt800 => ((laws_eqHyper.f k bt800.1 bt800.2.1 bt800.2.2.1 bt800.2.2.2.1 bt800.2.2.2.2.1 bt800.2.2.2.2.2.1 bt800.2.2.2.2.2.2.1 x a b m x' c d).bind fun t817 => (if t817 = true then (laws_FnExactReadHyper.j1 k bt794.1 (bt800.2.2.2.2.2.2.2 != o) x bt794.2.1 bt794.2.2.1 m x' bt794.2.2.2.1 bt794.2.2.2.2) else (laws_FnExactReadHyper.j1 k bt794.1 true x bt794.2.1 bt794.2.2.1 m x' bt794.2.2.2.1 bt794.2.2.2.2)))) else (some false))))) (fun k => ?_) ?_
    · simp only [laws_FnExactReadHyper.j0]
      rw [if_neg (by simp)]
    · refine Ev.bind hm (Ev.bind hh (Ev.neg (by omega) (Ev.pos rfl (Ev.bind e2 (Ev.bind (eqHyper_refl x x' m a b c d l1 l2 l3 l4) (Ev.pos rfl ?_))))))
      rw [bne_self_eq_false]
      exact readHyper_j1 x x' n m ts us vs ws hn hh
end Go.Proofs.Ytcpgpjggnghpdaa.Pure
