/- The law on the ring of polynomials, over drawn ones: sums and products in whatever order, what is added and taken away again, products through sums. -/
import Derived.Test.YtmnnklealendcaaMJP
import Derived.Test.YtmnnklealendcaaMVA
import Derived.Test.YtmnnklealendcaaMR
import Derived.Test.YtmnnklealendcaaPx3
import Derived.Test.YtmnnklealendcaaPx16
import Derived.Test.YtmnnklealendcaaPx24
import Derived.Test.YtmnnklealendcaaPx25
import Derived.Test.YtmnnklealendcaaPx26
import Derived.Test.YtmnnklealendcaaPx27
import Derived.Test.YtmnnklealendcaaPx28
namespace Go.Proofs.Ytmnnklealendcaa.Pure
open Go.RowKit Go.Proofs.YtmnnklealendcaaW.PrintWords Go.Proofs.YtmnnklealendcaaW.PrintLast Go.Proofs.YtmnnklealendcaaW.PrintMore Go.Proofs.Ytmnnklealendcaa.P

theorem FnRing : laws_FnRing.Pure := by
  intro l _ _ _
  refine Ev.rounds ?_
  unfold laws_FnRing.f laws_big.f
  simp only [Option.bind_some]
  by_cases h : (l.length : Int) > 1048576
  · exact Ev.pos (decide_eq_true h) (Ev.now _)
  refine Ev.neg (by rw [decide_eq_false h]; decide) ?_
  obtain ⟨a, b, c, ed, ha, hb, hc⟩ := polys_some l (by omega)
  have hab : ∀ i, 0 ≤ (a i + b i) % 3329 ∧ (a i + b i) % 3329 ≤ 3328 := fun i => mod_in _
  have hac : ∀ i, 0 ≤ (a i - c i) % 3329 ∧ (a i - c i) % 3329 ≤ 3328 := fun i => mod_in _
  have hcb : ∀ i, 0 ≤ (c i - b i) % 3329 ∧ (c i - b i) % 3329 ≤ 3328 := fun i => mod_in _
  have mab := mulV_in a b
  have mac := mulV_in a c
  have mbc := mulV_in b c
  have okl : ∀ f : Nat → Int, (∀ i, 0 ≤ f i ∧ f i ≤ 3328) → Ev (fun k => impl_PolyOk.f k (vec f)) true := fun f hf => by
    have := impl_PolyOk_ev (vec f) (by rw [vec_length]; omega)
    rwa [vec_ok fun i _ => hf i] at this
  refine Ev.bind ed (Ev.bind (impl_PolyAdd_ev a b ha hb) (Ev.bind (impl_PolyMul_ev a b ha hb) (Ev.bind (okl a ha) (Ev.pos rfl (Ev.bind (okl _ hab) (Ev.pos rfl (Ev.bind (okl _ mab) (Ev.pos rfl ?_))))))))
  refine Ev.bind (impl_PolyAdd_ev b a hb ha) (Ev.bind (sameInts_vec fun i _ => by rw [Int.add_comm]) (Ev.pos rfl (Ev.bind (impl_PolyMul_ev b a hb ha) (Ev.bind (sameInts_vec fun i hi => mulV_comm a b i hi) ?_))))
  refine Ev.step (f := fun k => (impl_PolySub.f k (vec fun i => (a i + b i) % 3329) (vec b)).bind fun t537 => ((laws_sameInts.f k t537 (vec a)).bind fun t540 => (if t540 = true then ((impl_PolyAdd.f k (vec a) (vec b)).bind fun t541 => ((impl_PolyMul.f k t541 (vec c)).bind fun t544 => ((impl_PolyMul.f k (vec a) (vec c)).bind fun t547 => ((impl_PolyMul.f k (vec b) (vec c)).bind fun t550 => ((impl_PolyAdd.f k t547 t550).bind fun t553 => ((laws_sameInts.f k t544 t553).bind fun t556 => (if t556 = true then ((impl_PolySub.f k (vec a) (vec c)).bind fun t557 => ((impl_PolySub.f k (vec c) (vec b)).bind fun t560 => ((impl_PolyAdd.f k t557 t560).bind fun t563 => ((impl_PolySub.f k (vec a) (vec b)).bind fun t566 => ((laws_sameInts.f k t563 t566).bind fun t569 => (some t569)))))) else (some false)))))))) else (some false)))) (fun k => ?_) ?_
  · simp only [laws_FnRing.j0]
    rw [if_neg (by decide)]
  · refine Ev.bind (impl_PolySub_ev _ b hab hb) (Ev.bind (sameInts_vec fun i _ => ?_) (Ev.pos rfl (Ev.bind (impl_PolyAdd_ev a b ha hb) (Ev.bind (impl_PolyMul_ev _ c hab hc) (Ev.bind (impl_PolyMul_ev a c ha hc) (Ev.bind (impl_PolyMul_ev b c hb hc) (Ev.bind (impl_PolyAdd_ev _ _ mac mbc) (Ev.bind (sameInts_vec fun i _ => mulV_add a b c i) (Ev.pos rfl ?_)))))))))
    · have := ha i
      have := hb i
      omega
    · refine Ev.bind (impl_PolySub_ev a c ha hc) (Ev.bind (impl_PolySub_ev c b hc hb) (Ev.bind (impl_PolyAdd_ev _ _ hac hcb) (Ev.bind (impl_PolySub_ev a b ha hb) (Ev.bind (sameInts_vec fun i _ => ?_) (Ev.now _)))))
      omega
end Go.Proofs.Ytmnnklealendcaa.Pure
