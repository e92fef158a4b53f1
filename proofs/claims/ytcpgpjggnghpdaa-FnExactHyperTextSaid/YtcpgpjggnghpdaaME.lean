/- Slices of texts, and signatures, compared with themselves. -/
import Derived.Test.YtcpgpjggnghpdaaMK
import Derived.Test.YtcpgpjggnghpdaaPx55
import Derived.Test.YtcpgpjggnghpdaaPx56
namespace Go.Proofs.Ytcpgpjggnghpdaa.Pure
open Go.RowKit Go.Proofs.YtcpgpjggnghpdaaW.PrintWords Go.Proofs.YtcpgpjggnghpdaaW.PrintLast Go.Proofs.YtcpgpjggnghpdaaW.PrintMore Go.Proofs.Ytcpgpjggnghpdaa.P

theorem eqStringS_refl (l : List ByteArray) (hl : l.length ≤ 35184372088832) : Ev (fun k => laws_eqStringS.f k l l) true := by
  unfold laws_eqStringS.f
  refine Ev.pos rfl ?_
  refine Ev.up (g := fun i k => laws_eqStringS.l0 k l l (i : Int)) (r := true) l.length ?_ ?_ 0 (by omega)
  · intro i hi h
    refine Ev.step (fun k => ?_) h
    simp only [laws_eqStringS.l0]
    rw [if_pos (by omega), if_pos (by omega), if_pos (by omega), if_pos trivial, w64s i (by omega)]
  · refine Ev.step (f := fun _ => some true) (fun k => ?_) (Ev.now _)
    simp only [laws_eqStringS.l0]
    rw [if_neg (by omega)]

theorem eqSig_refl (x : Int) (a b : List ByteArray) (ha : a.length ≤ 35184372088832) (hb : b.length ≤ 35184372088832) : Ev (fun k => laws_eqSig.f k x a b x a b) true := by
  unfold laws_eqSig.f
  exact Ev.pos rfl (Ev.bind (eqStringS_refl a ha) (Ev.pos rfl (Ev.bind (eqStringS_refl b hb) (Ev.pos rfl (Ev.now _)))))
end Go.Proofs.Ytcpgpjggnghpdaa.Pure
