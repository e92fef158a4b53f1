/- The law on LevelUp. -/
import Derived.Test.YtojdllodojbnfaaDoorML
import Derived.Test.YtojdllodojbnfaaDoorMG
import Derived.Test.YtojdllodojbnfaaDoorMZE
import Derived.Test.YtojdllodojbnfaaDoorPx8
import Derived.Test.YtojdllodojbnfaaDoorPx9
import Derived.Test.YtojdllodojbnfaaDoorPx10
import Derived.Test.YtojdllodojbnfaaDoorPx11
import Derived.Test.YtojdllodojbnfaaDoorPx27
import Derived.Test.YtojdllodojbnfaaDoorPx29
namespace Go.Proofs.YtojdllodojbnfaaDoor.Pure
set_option linter.unusedVariables false
open Go.RowKit Go.Proofs.YtojdllodojbnfaaDoorW.PrintWords Go.Proofs.YtojdllodojbnfaaDoorW.PrintLast Go.Proofs.YtojdllodojbnfaaDoorW.PrintMore Go.Proofs.YtojdllodojbnfaaDoor.P

theorem FnExactLevelUp (lv : Int) (l : List ByteArray) (hx : (Lit.int .i64 lv).wf = true) (hl : l.length ≤ 9223372036854775807) (hs : ∀ s ∈ l, s.size ≤ 9223372036854775807) : ∃ k, laws_FnExactLevelUp.f k lv l = some true := by
  refine Ev.rounds ?_
  unfold laws_FnExactLevelUp.f
  obtain ⟨r, hr, hp⟩ := szStringS_ev l 1048576 (by omega) (by omega) hl hs
  rcases hp with hp | ⟨p0, _, pl, ps⟩
  · exact Ev.bind hr (Ev.pos hp (Ev.now _))
  · obtain ⟨d, dl, _, f1, f2⟩ := level_same lv l (by omega) (fun s h => by have := ps s h; omega)
    have t := toStringS_ev l (by omega)
    have q1 := eqStringS_refl l (by omega)
    have q2 := eqStringS_refl d (by omega)
    obtain ⟨ts, m1, m2⟩ := marks_str l 1 (by decide) (by omega)
    obtain ⟨us, n1, n2⟩ := marks_str d 1 (by decide) (by omega)
    refine Ev.bind hr (Ev.neg (by omega) (Ev.bind t (Ev.bind f1 (Ev.bind t (Ev.bind f2 (Ev.bind q2 (Ev.pos rfl (Ev.bind t (Ev.bind q1 (Ev.pos rfl (Ev.bind m1 (Ev.neg (by omega) (Ev.bind q2 ?_)))))))))))))
    refine Ev.step (f := fun k => (laws_markStringS.f k d 1).bind fun bt425 => ((laws_heldStringS.f k bt425.2 1).bind fun t427 => (if t427 < 0 then (some false) else (if t427 = bt425.1 then ((laws_toStringS.f k l).bind fun t428 => ((impl_LevelUp.f k lv t428).bind fun t431 => ((laws_eqStringS.f k t431 d).bind fun t434 => (if t434 = true then ((laws_heldStringS.f k bt425.2 1).bind fun t435 => (if t435 < 0 then (some false) else (if t435 = bt425.1 then (some true) else (some false)))) else (some false))))) else (some false))))) (fun k => ?_) ?_
    · simp only [laws_FnExactLevelUp.j0]
      rw [if_neg (by simp)]
    · exact Ev.bind n1 (Ev.bind n2 (Ev.neg (by omega) (Ev.pos rfl (Ev.bind t (Ev.bind f2 (Ev.bind q2 (Ev.pos rfl (Ev.bind n2 (Ev.neg (by omega) (Ev.pos rfl (Ev.now _)))))))))))
end Go.Proofs.YtojdllodojbnfaaDoor.Pure
