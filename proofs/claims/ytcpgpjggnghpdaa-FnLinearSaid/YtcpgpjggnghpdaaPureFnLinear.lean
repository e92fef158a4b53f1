/- The law on sums of transforms, over drawn polynomials: transforms go through sums, and so do products of transforms. -/
import Derived.Test.YtcpgpjggnghpdaaMJP
import Derived.Test.YtcpgpjggnghpdaaMP10
import Derived.Test.YtcpgpjggnghpdaaMVA
import Derived.Test.YtcpgpjggnghpdaaPx1
import Derived.Test.YtcpgpjggnghpdaaPx62
namespace Go.Proofs.Ytcpgpjggnghpdaa.Pure
open Go.RowKit Go.Proofs.YtcpgpjggnghpdaaW.PrintWords Go.Proofs.YtcpgpjggnghpdaaW.PrintLast Go.Proofs.YtcpgpjggnghpdaaW.PrintMore Go.Proofs.Ytcpgpjggnghpdaa.P

theorem FnLinear : laws_FnLinear.Pure := by
  intro l _ _ _
  refine Ev.rounds ?_
  unfold laws_FnLinear.f laws_big.f
  simp only [Option.bind_some]
  by_cases h : (l.length : Int) > 1048576
  · exact Ev.pos (decide_eq_true h) (Ev.now _)
  refine Ev.neg (by rw [decide_eq_false h]; decide) ?_
  obtain ⟨a, b, c, ed, ha, hb, hc⟩ := polys_some l (by omega)
  have hab : ∀ i, 0 ≤ (a i + b i) % 3329 ∧ (a i + b i) % 3329 ≤ 3328 := fun i => mod_in _
  have na := nttV_in ha
  have nb := nttV_in hb
  have mac := mulNttV_in a c
  have mbc := mulNttV_in b c
  have s1 : ∀ i, i < 256 → nttV (fun i => (a i + b i) % 3329) i = (nttV a i + nttV b i) % 3329 := fun i _ =>
    EqQ.eq (((nttV_lin (g := a) (h := b) fun n => EqQ.mod _) i).trans (EqQ.mod _).symm) (nttV_in hab i).1 (nttV_in hab i).2 (mod_in _).1 (mod_in _).2
  refine Ev.bind ed (Ev.bind (impl_PolyAdd_ev a b ha hb) (Ev.bind (impl_Ntt_ev _ hab) (Ev.bind (impl_Ntt_ev a ha) (Ev.bind (impl_Ntt_ev b hb) (Ev.bind (impl_PolyAdd_ev _ _ na nb) (Ev.bind (impl_PolyAdd_ev a b ha hb) (Ev.bind (impl_MulNtt_ev _ c hab hc) (Ev.bind (impl_MulNtt_ev a c ha hc) (Ev.bind (impl_MulNtt_ev b c hb hc) (Ev.bind (impl_PolyAdd_ev _ _ mac mbc) ?_))))))))))
  refine Ev.pos (by rw [vec_length]; rfl) (Ev.bind (sameInts_vec s1) (Ev.pos rfl (Ev.bind (sameInts_vec fun i _ => mulNttV_lin a b c i) (Ev.pos rfl (Ev.pos (by rw [vec_length]; rfl) (Ev.bind (impl_MulNtt_ev a c ha hc) (Ev.bind (impl_MulNtt_ev c a hc ha) (Ev.bind (sameInts_vec fun i _ => mulNttV_comm a c i) (Ev.now _)))))))))
end Go.Proofs.Ytcpgpjggnghpdaa.Pure
