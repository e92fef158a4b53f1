/- The law on PublicOf. -/
import Derived.Test.YtoeagdpddggliaaDoorMZG
import Derived.Test.YtoeagdpddggliaaDoorPx33
namespace Go.Proofs.YtoeagdpddggliaaDoor.Pure
open Go.RowKit Go.Proofs.YtoeagdpddggliaaDoorW.PrintWords Go.Proofs.YtoeagdpddggliaaDoorW.PrintLast Go.Proofs.YtoeagdpddggliaaDoorW.PrintMore Go.Proofs.YtoeagdpddggliaaDoor.P

theorem FnExactPublicOf : laws_FnExactPublicOf.Pure := by
  intro s _
  refine Ev.rounds ?_
  unfold laws_FnExactPublicOf.f
  by_cases h : (s.size : Int) > 1048576
  · exact Ev.pos h (Ev.now _)
  · obtain ⟨d, _, h1, h2⟩ := publicOf_same s (by omega)
    exact Ev.neg h (Ev.bind h1 (Ev.bind h2 (Ev.pos rfl (Ev.now _))))
end Go.Proofs.YtoeagdpddggliaaDoor.Pure
