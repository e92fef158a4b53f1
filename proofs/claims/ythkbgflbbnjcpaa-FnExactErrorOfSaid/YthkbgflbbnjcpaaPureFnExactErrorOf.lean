/- The law on ErrorOf: for every secret, text and cipher the program and the reference answer the same number. -/
import Derived.Test.YthkbgflbbnjcpaaMYY
import Derived.Test.YthkbgflbbnjcpaaPx9
import Derived.Test.YthkbgflbbnjcpaaPx18
import Derived.Test.YthkbgflbbnjcpaaPx19
namespace Go.Proofs.Ythkbgflbbnjcpaa.Pure
open Go.RowKit Go.Proofs.YthkbgflbbnjcpaaW.PrintWords Go.Proofs.YthkbgflbbnjcpaaW.PrintLast Go.Proofs.YthkbgflbbnjcpaaW.PrintMore Go.Proofs.Ythkbgflbbnjcpaa.P

theorem errorOf_any (s m c : ByteArray) : ∃ r : Int, Ev (fun k => spec_ErrorOf.f k s m c) r ∧ Ev (fun k => impl_ErrorOf.f k s m c) r := by
  obtain ⟨R, hR, so, io⟩ := open_any s c
  unfold spec_ErrorOf.f impl_ErrorOf.f
  have sbad : Ev (fun k => spec_ErrorOf.j0 k m R.1 true) (-1) := by
    refine Ev.step (f := fun _ => some (-1)) (fun k => ?_) (Ev.now _)
    simp only [spec_ErrorOf.j0]
    rw [if_pos trivial]
  have ibad : Ev (fun k => impl_ErrorOf.j0 k m R.1 true) (-1) := by
    refine Ev.step (f := fun _ => some (-1)) (fun k => ?_) (Ev.now _)
    simp only [impl_ErrorOf.j0]
    rw [if_pos trivial]
  by_cases h : R.2 = true
  · by_cases hm : (m.size : Int) = 32
    · have hmb : ((m.size : Int) != 32) = false := bne_eq_false_iff_eq.mpr hm
      have hm' : m.size = 32 := by omega
      obtain ⟨r, sf, i_f⟩ := far_any R.1 (bitsV m) (by omega) (by rw [bitsV_len]; decide)
      refine ⟨r, Ev.bind so (Ev.pos h ?_), Ev.bind io (Ev.pos h ?_)⟩
      · rw [hmb]
        refine Ev.step (f := fun k => (spec_l13Bits.f k m).bind fun t => (spec_Far.f k R.1 t).bind fun t2 => some t2) (fun k => ?_) (Ev.bind (spec_l13Bits_ev m hm') (Ev.bind sf (Ev.now _)))
        simp only [spec_ErrorOf.j0]
        rw [if_neg (by decide)]
      · rw [hmb]
        refine Ev.step (f := fun k => (impl_bitsOf.f k m).bind fun t => (impl_Far.f k R.1 t).bind fun t2 => some t2) (fun k => ?_) (Ev.bind (impl_bitsOf_ev m hm') (Ev.bind i_f (Ev.now _)))
        simp only [impl_ErrorOf.j0]
        rw [if_neg (by decide)]
    · have hmb : ((m.size : Int) != 32) = true := bne_iff_ne.mpr hm
      refine ⟨-1, Ev.bind so (Ev.pos h ?_), Ev.bind io (Ev.pos h ?_)⟩
      · rw [hmb]; exact sbad
      · rw [hmb]; exact ibad
  · exact ⟨-1, Ev.bind so (Ev.neg h sbad), Ev.bind io (Ev.neg h ibad)⟩
theorem FnExactErrorOf : laws_FnExactErrorOf.Pure := by
  intro s m c _ _ _
  refine Ev.rounds ?_
  unfold laws_FnExactErrorOf.f
  by_cases h : (s.size : Int) > 1048576
  · exact Ev.pos h (Ev.now _)
  by_cases h2 : (m.size : Int) > 1048576
  · exact Ev.neg h (Ev.pos h2 (Ev.now _))
  by_cases h3 : (c.size : Int) > 1048576
  · exact Ev.neg h (Ev.neg h2 (Ev.pos h3 (Ev.now _)))
  obtain ⟨r, e1, e2⟩ := errorOf_any s m c
  exact Ev.neg h (Ev.neg h2 (Ev.neg h3 (Ev.bind e1 (Ev.bind e2 (Ev.pos rfl (Ev.now _))))))
end Go.Proofs.Ythkbgflbbnjcpaa.Pure
