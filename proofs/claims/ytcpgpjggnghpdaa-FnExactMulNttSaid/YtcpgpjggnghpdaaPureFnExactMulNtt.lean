/- The law on MulNtt: for any two lists of numbers the program and the reference answer the same list, new each time, and the lists handed over stay. -/
import Derived.Test.YtcpgpjggnghpdaaMA2
import Derived.Test.YtcpgpjggnghpdaaMP8
import Derived.Test.YtcpgpjggnghpdaaPx33
import Derived.Test.YtcpgpjggnghpdaaPx38
import Derived.Test.YtcpgpjggnghpdaaPx39
import Derived.Test.YtcpgpjggnghpdaaPx40
import Derived.Test.YtcpgpjggnghpdaaPx41
import Derived.Test.YtcpgpjggnghpdaaPx42
import Derived.Test.YtcpgpjggnghpdaaPx43
namespace Go.Proofs.Ytcpgpjggnghpdaa.Pure
open Go.RowKit Go.Proofs.YtcpgpjggnghpdaaW.PrintWords Go.Proofs.YtcpgpjggnghpdaaW.PrintLast Go.Proofs.YtcpgpjggnghpdaaW.PrintMore Go.Proofs.Ytcpgpjggnghpdaa.P

theorem mulNtt_both (l u : List Int) (hl : l.length ≤ 35184372088832) (hu : u.length ≤ 35184372088832) : ∃ R : List Int, R.length ≤ 256 ∧ Ev (fun k => spec_MulNtt.f k l u) R ∧ Ev (fun k => impl_MulNtt.f k l u) R := by
  by_cases h : polyOk l = true
  · by_cases h2 : polyOk u = true
    · obtain ⟨f, rfl, hf⟩ := poly_vec' h
      obtain ⟨g, rfl, hg⟩ := poly_vec' h2
      exact ⟨vec (mulNttV f g), by rw [vec_length]; omega, spec_MulNtt_ev f g hf hg, impl_MulNtt_ev f g hf hg⟩
    · have h2' : polyOk u = false := by simpa using h2
      refine ⟨[], by simp, ?_, ?_⟩
      · unfold spec_MulNtt.f
        simp only [Option.bind_some]
        refine Ev.bind (spec_PolyOk_ev l) (Ev.pos h (Ev.bind (spec_PolyOk_ev u) ?_))
        refine Ev.step (f := fun _ => some []) (fun k => ?_) (Ev.now _)
        simp only [spec_MulNtt.j0]
        rw [if_pos (by rw [h2']; rfl)]
      · unfold impl_MulNtt.f
        refine Ev.bind (impl_PolyOk_ev l hl) (Ev.pos h (Ev.bind (impl_PolyOk_ev u hu) ?_))
        refine Ev.step (f := fun _ => some []) (fun k => ?_) (Ev.now _)
        simp only [impl_MulNtt.j0]
        rw [if_pos (by rw [h2']; rfl)]
  · refine ⟨[], by simp, ?_, ?_⟩
    · unfold spec_MulNtt.f
      simp only [Option.bind_some]
      refine Ev.bind (spec_PolyOk_ev l) (Ev.neg h ?_)
      refine Ev.step (f := fun _ => some []) (fun k => ?_) (Ev.now _)
      simp only [spec_MulNtt.j0]
      rw [if_pos trivial]
    · unfold impl_MulNtt.f
      refine Ev.bind (impl_PolyOk_ev l hl) (Ev.neg h ?_)
      refine Ev.step (f := fun _ => some []) (fun k => ?_) (Ev.now _)
      simp only [impl_MulNtt.j0]
      rw [if_pos trivial]
theorem FnExactMulNtt : laws_FnExactMulNtt.Pure := by
  intro l u _ _ _ _ _ _
  refine Ev.rounds ?_
  unfold laws_FnExactMulNtt.f
  by_cases h : (l.length : Int) > 1048576
  · exact Ev.pos h (Ev.now _)
  · by_cases h' : (u.length : Int) > 1048576
    · exact Ev.neg h (Ev.pos h' (Ev.now _))
    have hl : l.length ≤ 35184372088832 := by omega
    have hu : u.length ≤ 35184372088832 := by omega
    obtain ⟨R, hR, e1, e2⟩ := mulNtt_both l u hl hu
    have hr : R.length ≤ 35184372088832 := by omega
    have t1 := toIntS_ev l hl
    have t2 := toIntS_ev u hu
    have q1 := eqIntS_refl l hl
    have q2 := eqIntS_refl R hr
    have q3 := eqIntS_refl u hu
    obtain ⟨t, m2⟩ := markIntS_from u (l.length + 1) hu (by omega)
    have m2' : Ev (fun k => laws_markIntS.f k u ((l.length : Int) + 1)) (((l.length + 1 + u.length : Nat) : Int), t) := m2
    have m1 := markIntS_ev l hl
    have m3 := markIntS_ev R hr
    have hh := heldIntS_ev R.length hr
    have c0 : ¬ ((l.length + 1 + u.length : Nat) : Int) < 0 := by omega
    have c1 : ¬ (R.length : Int) + 1 < 0 := by omega
    refine Ev.neg h (Ev.neg h' (Ev.bind t1 (Ev.bind t2 (Ev.bind e1 (Ev.bind t1 (Ev.bind t2 (Ev.bind e2 (Ev.bind q2 (Ev.pos rfl (Ev.bind t1 (Ev.bind q1 (Ev.pos rfl (Ev.bind t2 (Ev.bind q3 (Ev.pos rfl (Ev.bind m1 (Ev.bind m2' (Ev.neg c0 (Ev.bind q2 ?_)))))))))))))))))))
    refine Ev.step (f := fun k => (laws_markIntS.f k R 1).bind fun bt442 => ((laws_heldIntS.f k bt442.2 1).bind fun t444 => (if t444 < 0 then (some false) else (if t444 = bt442.1 then ((laws_toIntS.f k l).bind fun t445 => ((laws_toIntS.f k u).bind fun t448 => ((impl_MulNtt.f k t445 t448).bind fun t451 => ((laws_eqIntS.f k t451 R).bind fun t454 => (if t454 = true then ((laws_heldIntS.f k bt442.2 1).bind fun t455 => (if t455 < 0 then (some false) else (if t455 = bt442.1 then (some true) else (some false)))) else (some false)))))) else (some false))))) (fun k => ?_) ?_
    · simp only [laws_FnExactMulNtt.j0]
      rw [if_neg (by decide)]
    · exact Ev.bind m3 (Ev.bind hh (Ev.neg c1 (Ev.pos rfl (Ev.bind t1 (Ev.bind t2 (Ev.bind e2 (Ev.bind q2 (Ev.pos rfl (Ev.bind hh (Ev.neg c1 (Ev.pos rfl (Ev.now _))))))))))))
end Go.Proofs.Ytcpgpjggnghpdaa.Pure
