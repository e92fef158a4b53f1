/- The law on SigOk: for every signature the program and the reference answer the same, and the signature stays. -/
import Derived.Test.YtmnnklealendcaaML
import Derived.Test.YtmnnklealendcaaPx15
namespace Go.Proofs.Ytmnnklealendcaa.Pure
open Go.RowKit Go.Proofs.YtmnnklealendcaaW.PrintWords Go.Proofs.YtmnnklealendcaaW.PrintLast Go.Proofs.YtmnnklealendcaaW.PrintMore Go.Proofs.Ytmnnklealendcaa.P

theorem FnExactSigOk (x : Int) (a b : List ByteArray) (_ : (Lit.int .i64 x).wf = true) (ha : a.length ≤ 9223372036854775807) (hsa : ∀ s ∈ a, s.size ≤ 9223372036854775807) (hb : b.length ≤ 9223372036854775807) (hsb : ∀ s ∈ b, s.size ≤ 9223372036854775807) :
    ∃ k, laws_FnExactSigOk.f k x a b = some true := by
  refine Ev.rounds ?_
  unfold laws_FnExactSigOk.f
  obtain ⟨r, hr, hp⟩ := szSig_ev x a b 1048576 (by omega) (by omega) ha hb hsa hsb
  rcases hp with hp | ⟨p0, _, pa, pb, _, _⟩
  · exact Ev.bind hr (Ev.pos hp (Ev.now _))
  · refine Ev.bind hr (Ev.neg (by omega) (Ev.bind (toSig_ev x a b (by omega) (by omega)) (Ev.bind (spec_SigOk_ev x a b) (Ev.bind (toSig_ev x a b (by omega) (by omega)) (Ev.bind (impl_SigOk_ev x a b (by omega) (by omega)) (Ev.neg (by simp) ?_))))))
    exact Ev.bind (toSig_ev x a b (by omega) (by omega)) (Ev.bind (eqSig_refl x a b (by omega) (by omega)) (Ev.pos rfl (Ev.now _)))
end Go.Proofs.Ytmnnklealendcaa.Pure
