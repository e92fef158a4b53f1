/- The law on OnceSign. -/
import Derived.Test.YtoeagdpddggliaaDoorML
import Derived.Test.YtoeagdpddggliaaDoorMG
import Derived.Test.YtoeagdpddggliaaDoorMZJ
import Derived.Test.YtoeagdpddggliaaDoorPx8
import Derived.Test.YtoeagdpddggliaaDoorPx9
import Derived.Test.YtoeagdpddggliaaDoorPx10
import Derived.Test.YtoeagdpddggliaaDoorPx17
import Derived.Test.YtoeagdpddggliaaDoorPx18
namespace Go.Proofs.YtoeagdpddggliaaDoor.Pure
set_option linter.unusedVariables false
open Go.RowKit Go.Proofs.YtoeagdpddggliaaDoorW.PrintWords Go.Proofs.YtoeagdpddggliaaDoorW.PrintLast Go.Proofs.YtoeagdpddggliaaDoorW.PrintMore Go.Proofs.YtoeagdpddggliaaDoor.P

theorem FnExactOnceSign (l : List ByteArray) (p : Int) (m : ByteArray) (hl : l.length ≤ 9223372036854775807) (hs : ∀ s ∈ l, s.size ≤ 9223372036854775807) (hx : (Lit.int .i64 p).wf = true) (hz : m.size ≤ 140737488351232) : ∃ k, laws_FnExactOnceSign.f k l p m = some true := by
  refine Ev.rounds ?_
  unfold laws_FnExactOnceSign.f
  by_cases h : (m.size : Int) > 1048576
  · exact Ev.pos h (Ev.now _)
  refine Ev.neg h ?_
  obtain ⟨r, hr, hp⟩ := szStringS_ev l 1048576 (by omega) (by omega) hl hs
  rcases hp with hp | ⟨p0, _, pl, ps⟩
  · exact Ev.bind hr (Ev.pos hp (Ev.now _))
  · obtain ⟨d, dl, _, _, f1, f2⟩ := sign_same l p m (by omega) (fun s h => by have := ps s h; omega)
    have t := toStringS_ev l (by omega)
    have q1 := eqStringS_refl l (by omega)
    have q2 := eqStringS_refl d (by omega)
    obtain ⟨ts, m1, m2⟩ := marks_str l 1 (by decide) (by omega)
    obtain ⟨us, n1, n2⟩ := marks_str d 1 (by decide) (by omega)
    refine Ev.bind hr (Ev.neg (by omega) (Ev.bind t (Ev.bind f1 (Ev.bind t (Ev.bind f2 (Ev.bind q2 (Ev.pos rfl (Ev.bind t (Ev.bind q1 (Ev.pos rfl (Ev.bind m1 (Ev.neg (by omega) (Ev.bind q2 ?_)))))))))))))
    refine Ev.step (f := fun k => (laws_markStringS.f k d 1).bind fun bt425 => ((laws_heldStringS.f k bt425.2 1).bind fun t427 => (if t427 < 0 then (some false) else (if t427 = bt425.1 then ((laws_toStringS.f k l).bind fun t428 => ((impl_OnceSign.f k t428 p m).bind fun t431 => ((laws_eqStringS.f k t431 d).bind fun t434 => (if t434 = true then ((laws_heldStringS.f k bt425.2 1).bind fun t435 => (if t435 < 0 then (some false) else (if t435 = bt425.1 then (some true) else (some false)))) else (some false))))) else (some false))))) (fun k => ?_) ?_
    · simp only [laws_FnExactOnceSign.j0]
      rw [if_neg (by simp)]
    · exact Ev.bind n1 (Ev.bind n2 (Ev.neg (by omega) (Ev.pos rfl (Ev.bind t (Ev.bind f2 (Ev.bind q2 (Ev.pos rfl (Ev.bind n2 (Ev.neg (by omega) (Ev.pos rfl (Ev.now _)))))))))))
end Go.Proofs.YtoeagdpddggliaaDoor.Pure
