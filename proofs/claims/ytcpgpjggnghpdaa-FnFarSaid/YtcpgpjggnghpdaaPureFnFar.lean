/- The law on Far, over drawn polynomials: how far they are from each other is the same from both sides, at most half, 0 just of the same, and goes no farther round a third. -/
import Derived.Test.YtcpgpjggnghpdaaMJP
import Derived.Test.YtcpgpjggnghpdaaMF4
import Derived.Test.YtcpgpjggnghpdaaPx1
import Derived.Test.YtcpgpjggnghpdaaPx17
namespace Go.Proofs.Ytcpgpjggnghpdaa.Pure
open Go.RowKit Go.Proofs.YtcpgpjggnghpdaaW.PrintWords Go.Proofs.YtcpgpjggnghpdaaW.PrintLast Go.Proofs.YtcpgpjggnghpdaaW.PrintMore Go.Proofs.Ytcpgpjggnghpdaa.P

theorem FnFar : laws_FnFar.Pure := by
  intro l _ _ _
  refine Ev.rounds ?_
  unfold laws_FnFar.f laws_big.f
  simp only [Option.bind_some]
  by_cases h : (l.length : Int) > 1048576
  · exact Ev.pos (decide_eq_true h) (Ev.now _)
  refine Ev.neg (by rw [decide_eq_false h]; decide) ?_
  obtain ⟨a, b, c, ed, ha, hb, hc⟩ := polys_some l (by omega)
  obtain ⟨r, hr, hr2⟩ := sameInts_dec a b
  have hin := farV_in a b
  have hbc := farV_in b c
  have htri := farV_tri a b c
  have hz := farV_zero ha hb
  have e1 := impl_Far_ev a b ha hb
  have e2 := impl_Far_ev b a hb ha
  rw [farV_comm b a] at e2
  have hcond : ((farV a b == 0) == r) = true := by
    cases r with
    | true =>
      have h0 : farV a b = 0 := hz.mpr (hr2.mp rfl)
      rw [h0]; rfl
    | false =>
      have h0 : ¬ farV a b = 0 := fun e => absurd (hr2.mpr (hz.mp e)) (by decide)
      rw [beq_eq_false_iff_ne.mpr h0]; rfl
  have htri' : farV a c ≤ wrap64 (farV a b + farV b c) := by rw [w64 (by omega) (by omega)]; exact htri
  refine Ev.bind ed (Ev.bind e1 (Ev.bind e2 (Ev.pos rfl (Ev.pos hin.1 (Ev.pos hin.2 (Ev.bind hr (Ev.pos hcond (Ev.bind (impl_Far_ev a a ha ha) (Ev.pos (farV_self a ha) (Ev.bind (impl_Far_ev a c ha hc) (Ev.bind (impl_Far_ev b c hb hc) (Ev.pos htri' (Ev.bind (spec_Far_ev a b ha hb) (Ev.pos rfl (Ev.bind (impl_Far_one a ha [1] (by decide) (by decide)) (Ev.now _))))))))))))))))
end Go.Proofs.Ytcpgpjggnghpdaa.Pure
