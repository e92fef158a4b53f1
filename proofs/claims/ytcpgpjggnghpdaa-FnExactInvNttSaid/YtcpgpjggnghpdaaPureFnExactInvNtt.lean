/- The law on InvNtt: for every list of numbers the program and the reference answer the same list, new each time, and the list handed over stays. -/
import Derived.Test.YtcpgpjggnghpdaaMA
import Derived.Test.YtcpgpjggnghpdaaMP7
import Derived.Test.YtcpgpjggnghpdaaPx32
import Derived.Test.YtcpgpjggnghpdaaPx39
import Derived.Test.YtcpgpjggnghpdaaPx40
import Derived.Test.YtcpgpjggnghpdaaPx41
import Derived.Test.YtcpgpjggnghpdaaPx42
import Derived.Test.YtcpgpjggnghpdaaPx77
import Derived.Test.YtcpgpjggnghpdaaPx78
namespace Go.Proofs.Ytcpgpjggnghpdaa.Pure
open Go.RowKit Go.Proofs.YtcpgpjggnghpdaaW.PrintWords Go.Proofs.YtcpgpjggnghpdaaW.PrintLast Go.Proofs.YtcpgpjggnghpdaaW.PrintMore Go.Proofs.Ytcpgpjggnghpdaa.P

theorem invNtt_both (l : List Int) (hl : l.length ≤ 35184372088832) : ∃ R : List Int, R.length ≤ 256 ∧ Ev (fun k => spec_InvNtt.f k l) R ∧ Ev (fun k => impl_InvNtt.f k l) R := by
  by_cases h : polyOk l = true
  · obtain ⟨f, rfl, hf⟩ := poly_vec' h
    exact ⟨vec (invV f), by rw [vec_length]; omega, spec_InvNtt_ev f hf, impl_InvNtt_ev f hf⟩
  · refine ⟨[], by simp, ?_, ?_⟩
    · unfold spec_InvNtt.f
      exact Ev.bind (spec_PolyOk_ev l) (Ev.neg h (Ev.now _))
    · unfold impl_InvNtt.f
      exact Ev.bind (impl_PolyOk_ev l hl) (Ev.neg h (Ev.now _))
theorem FnExactInvNtt : laws_FnExactInvNtt.Pure := by
  intro l _ _ _
  refine Ev.rounds ?_
  unfold laws_FnExactInvNtt.f
  by_cases h : (l.length : Int) > 1048576
  · exact Ev.pos h (Ev.now _)
  · have hl : l.length ≤ 35184372088832 := by omega
    obtain ⟨R, hR, e1, e2⟩ := invNtt_both l hl
    have hr : R.length ≤ 35184372088832 := by omega
    have t1 := toIntS_ev l hl
    have q1 := eqIntS_refl l hl
    have q2 := eqIntS_refl R hr
    refine Ev.neg h (Ev.bind t1 (Ev.bind e1 (Ev.bind t1 (Ev.bind e2 (Ev.bind q2 (Ev.pos rfl (Ev.bind t1 (Ev.bind q1 (Ev.pos rfl (Ev.bind (markIntS_ev l hl) (Ev.neg (by omega) (Ev.bind q2 ?_))))))))))))
    refine Ev.step (f := fun k => (laws_markIntS.f k R 1).bind fun bt669 => ((laws_heldIntS.f k bt669.2 1).bind fun t671 => (if t671 < 0 then (some false) else (if t671 = bt669.1 then ((laws_toIntS.f k l).bind fun t672 => ((impl_InvNtt.f k t672).bind fun t675 => ((laws_eqIntS.f k t675 R).bind fun t678 => (if t678 = true then ((laws_heldIntS.f k bt669.2 1).bind fun t679 => (if t679 < 0 then (some false) else (if t679 = bt669.1 then (some true) else (some false)))) else (some false))))) else (some false))))) (fun k => ?_) ?_
    · simp only [laws_FnExactInvNtt.j0]
      rw [if_neg (by simp)]
    · have hh := heldIntS_ev R.length hr
      exact Ev.bind (markIntS_ev R hr) (Ev.bind hh (Ev.neg (by omega) (Ev.pos rfl (Ev.bind t1 (Ev.bind e2 (Ev.bind q2 (Ev.pos rfl (Ev.bind hh (Ev.neg (by omega) (Ev.pos rfl (Ev.now _)))))))))))
end Go.Proofs.Ytcpgpjggnghpdaa.Pure
