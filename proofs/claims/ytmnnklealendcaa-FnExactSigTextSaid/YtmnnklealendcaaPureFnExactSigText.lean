/- The law on SigText: for every signature the program and the reference write the same text and answer the same bool, and the signature stays. -/
import Derived.Test.YtmnnklealendcaaML
import Derived.Test.YtmnnklealendcaaPx13
import Derived.Test.YtmnnklealendcaaPx14
import Derived.Test.YtmnnklealendcaaPx32
namespace Go.Proofs.Ytmnnklealendcaa.Pure
open Go.RowKit Go.Proofs.YtmnnklealendcaaW.PrintWords Go.Proofs.YtmnnklealendcaaW.PrintLast Go.Proofs.YtmnnklealendcaaW.PrintMore Go.Proofs.Ytmnnklealendcaa.P

theorem FnExactSigText (x : Int) (a b : List ByteArray) (hx : (Lit.int .i64 x).wf = true) (ha : a.length ≤ 9223372036854775807) (hsa : ∀ s ∈ a, s.size ≤ 9223372036854775807) (hb : b.length ≤ 9223372036854775807) (hsb : ∀ s ∈ b, s.size ≤ 9223372036854775807) :
    ∃ k, laws_FnExactSigText.f k x a b = some true := by
  refine Ev.rounds ?_
  unfold laws_FnExactSigText.f
  have hx' := wf_i64 hx
  obtain ⟨r, hr, hp⟩ := szSig_ev x a b 1048576 (by omega) (by omega) ha hb hsa hsb
  rcases hp with hp | ⟨p0, _, pa, pb, _, _⟩
  · exact Ev.bind hr (Ev.pos hp (Ev.now _))
  · refine Ev.bind hr (Ev.neg (by omega) (Ev.bind (toSig_ev x a b (by omega) (by omega)) (Ev.bind (spec_SigText_ev x a b hx'.1 hx'.2) (Ev.bind (toSig_ev x a b (by omega) (by omega)) (Ev.bind (impl_SigText_ev x a b (by omega) (by omega)) (Ev.pos rfl ?_))))))
    refine Ev.step (f := fun k => (laws_toSig.f k x a b).bind fun bt644 => ((laws_eqSig.f k x a b bt644.1 bt644.2.1 bt644.2.2).bind fun t651 => (if t651 = true then (some true) else (some false)))) (fun k => ?_) ?_
    · simp only [laws_FnExactSigText.j0]
      rw [if_neg (by simp)]
    · exact Ev.bind (toSig_ev x a b (by omega) (by omega)) (Ev.bind (eqSig_refl x a b (by omega) (by omega)) (Ev.pos rfl (Ev.now _)))
end Go.Proofs.Ytmnnklealendcaa.Pure
