/- What the laws' own helpers answer of a signature of two trees. -/
import Derived.Test.YtcpgpjggnghpdaaMG
import Derived.Test.YtcpgpjggnghpdaaME
import Derived.Test.YtcpgpjggnghpdaaPx57
import Derived.Test.YtcpgpjggnghpdaaPx71
import Derived.Test.YtcpgpjggnghpdaaPx72
import Derived.Test.YtcpgpjggnghpdaaPx74
import Derived.Test.YtcpgpjggnghpdaaPx75
namespace Go.Proofs.Ytcpgpjggnghpdaa.Pure
open Go.RowKit Go.Proofs.YtcpgpjggnghpdaaW.PrintWords Go.Proofs.YtcpgpjggnghpdaaW.PrintLast Go.Proofs.YtcpgpjggnghpdaaW.PrintMore Go.Proofs.Ytcpgpjggnghpdaa.P

theorem marks_sigAt (x y c : Int) (a b : List ByteArray) (hc : 0 ≤ c) (ha : a.length ≤ 1000) (hb : b.length ≤ 1000) (hc2 : c ≤ 1000000) :
    ∃ (ts us : List ByteArray), Ev (fun k => laws_markSig.f k x a b c) (c + a.length + b.length, ts, us) ∧ Ev (fun k => laws_heldSig.f k y ts us c) (c + a.length + b.length) := by
  obtain ⟨ts, h1, h2⟩ := marks_str a c (by omega) (by omega)
  obtain ⟨us, h3, h4⟩ := marks_str b (c + a.length) (by omega) (by omega)
  refine ⟨ts, us, ?_, ?_⟩
  · unfold laws_markSig.f
    exact Ev.bind h1 (Ev.bind h3 (Ev.now _))
  · unfold laws_heldSig.f
    exact Ev.bind h2 (Ev.neg (by omega) (Ev.bind h4 (Ev.neg (by omega) (Ev.now _))))
theorem marks_hyper (x y x' y' : Int) (m m' : ByteArray) (a b c d : List ByteArray) (ha : a.length ≤ 1000) (hb : b.length ≤ 1000) (hc : c.length ≤ 1000) (hd : d.length ≤ 1000) :
    ∃ (n : Int) (ts us vs ws : List ByteArray), 0 < n ∧ Ev (fun k => laws_markHyper.f k x a b m x' c d 1) (n, ts, us, vs, ws) ∧ Ev (fun k => laws_heldHyper.f k y ts us m' y' vs ws 1) n := by
  obtain ⟨ts, us, h1, h2⟩ := marks_sigAt x y 1 a b (by omega) ha hb (by omega)
  obtain ⟨vs, ws, h3, h4⟩ := marks_sigAt x' y' (1 + a.length + b.length) c d (by omega) hc hd (by omega)
  refine ⟨1 + a.length + b.length + c.length + d.length, ts, us, vs, ws, by omega, ?_, ?_⟩
  · unfold laws_markHyper.f
    exact Ev.bind h1 (Ev.bind h3 (Ev.now _))
  · unfold laws_heldHyper.f
    exact Ev.bind h2 (Ev.neg (by omega) (Ev.bind h4 (Ev.neg (by omega) (Ev.now _))))
theorem eqHyper_refl (x x' : Int) (m : ByteArray) (a b c d : List ByteArray) (ha : a.length ≤ 1000) (hb : b.length ≤ 1000) (hc : c.length ≤ 1000) (hd : d.length ≤ 1000) :
    Ev (fun k => laws_eqHyper.f k x a b m x' c d x a b m x' c d) true := by
  unfold laws_eqHyper.f
  exact Ev.bind (eqSig_refl _ _ _ (by omega) (by omega)) (Ev.pos rfl (Ev.pos rfl (Ev.bind (eqSig_refl _ _ _ (by omega) (by omega)) (Ev.pos rfl (Ev.now _)))))
end Go.Proofs.Ytcpgpjggnghpdaa.Pure
