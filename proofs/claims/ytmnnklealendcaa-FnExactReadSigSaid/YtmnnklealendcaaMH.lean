/- What the laws' own helpers answer of signatures: compared with themselves, marked, held against their marks. -/
import Derived.Test.YtmnnklealendcaaMG
import Derived.Test.YtmnnklealendcaaPx14
import Derived.Test.YtmnnklealendcaaPx21
namespace Go.Proofs.Ytmnnklealendcaa.Pure
open Go.RowKit Go.Proofs.YtmnnklealendcaaW.PrintWords Go.Proofs.YtmnnklealendcaaW.PrintLast Go.Proofs.YtmnnklealendcaaW.PrintMore Go.Proofs.Ytmnnklealendcaa.P

theorem eqSig_refl (x : Int) (a b : List ByteArray) (ha : a.length ≤ 35184372088832) (hb : b.length ≤ 35184372088832) : Ev (fun k => laws_eqSig.f k x a b x a b) true := by
  unfold laws_eqSig.f
  exact Ev.pos rfl (Ev.bind (eqStringS_refl a ha) (Ev.pos rfl (Ev.bind (eqStringS_refl b hb) (Ev.pos rfl (Ev.now _)))))
theorem marks_sig (x y : Int) (a b : List ByteArray) (ha : a.length ≤ 35184372088832) (hb : b.length ≤ 35184372088832) :
    ∃ (n : Int) (ts us : List ByteArray), 0 < n ∧ Ev (fun k => laws_markSig.f k x a b 1) (n, ts, us) ∧ Ev (fun k => laws_heldSig.f k y ts us 1) n := by
  obtain ⟨ts, h1, h2⟩ := marks_str a 1 (by omega) (by omega)
  obtain ⟨us, h3, h4⟩ := marks_str b (1 + a.length) (by omega) (by omega)
  refine ⟨1 + a.length + b.length, ts, us, by omega, ?_, ?_⟩
  · unfold laws_markSig.f
    exact Ev.bind h1 (Ev.bind h3 (Ev.now _))
  · unfold laws_heldSig.f
    exact Ev.bind h2 (Ev.neg (by omega) (Ev.bind h4 (Ev.neg (by omega) (Ev.now _))))
end Go.Proofs.Ytmnnklealendcaa.Pure
