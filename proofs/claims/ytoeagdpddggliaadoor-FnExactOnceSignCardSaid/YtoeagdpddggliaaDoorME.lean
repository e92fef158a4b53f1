/- Slices of texts, and signatures, compared with themselves. -/
import Derived.Test.YtoeagdpddggliaaDoorMKB
import Derived.Test.YtoeagdpddggliaaDoorPx9
namespace Go.Proofs.YtoeagdpddggliaaDoor.Pure
open Go.RowKit Go.Proofs.YtoeagdpddggliaaDoorW.PrintWords Go.Proofs.YtoeagdpddggliaaDoorW.PrintLast Go.Proofs.YtoeagdpddggliaaDoorW.PrintMore Go.Proofs.YtoeagdpddggliaaDoor.P

theorem eqStringS_refl (l : List ByteArray) (hl : l.length ≤ 35184372088832) : Ev (fun k => laws_eqStringS.f k l l) true := by
  unfold laws_eqStringS.f
  refine Ev.pos rfl ?_
  refine Ev.up (g := fun i k => laws_eqStringS.l0 k l l (i : Int)) (r := true) l.length ?_ ?_ 0 (by omega)
  · intro i hi h
    refine Ev.step (fun k => ?_) h
    simp only [laws_eqStringS.l0]
    rw [if_pos (by omega), if_pos (by omega), if_pos (by omega), if_pos trivial, w64s i (by omega)]
  · refine Ev.step (f := fun _ => some true) (fun k => ?_) (Ev.now _)
    simp only [laws_eqStringS.l0]
    rw [if_neg (by omega)]

end Go.Proofs.YtoeagdpddggliaaDoor.Pure
