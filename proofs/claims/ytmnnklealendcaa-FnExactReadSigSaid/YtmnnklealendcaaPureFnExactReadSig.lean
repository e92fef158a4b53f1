/- The law on ReadSig: for every text the program and the reference answer the same signature and the same bool, new each time. -/
import Derived.Test.YtmnnklealendcaaMH
import Derived.Test.YtmnnklealendcaaMI
import Derived.Test.YtmnnklealendcaaPx14
import Derived.Test.YtmnnklealendcaaPx20
import Derived.Test.YtmnnklealendcaaPx21
import Derived.Test.YtmnnklealendcaaPx22
namespace Go.Proofs.Ytmnnklealendcaa.Pure
open Go.RowKit Go.Proofs.YtmnnklealendcaaW.PrintWords Go.Proofs.YtmnnklealendcaaW.PrintLast Go.Proofs.YtmnnklealendcaaW.PrintMore Go.Proofs.Ytmnnklealendcaa.P

theorem FnExactReadSig : laws_FnExactReadSig.Pure := by
  intro s _
  refine Ev.rounds ?_
  unfold laws_FnExactReadSig.f
  obtain ⟨hl1, hl2⟩ := readSigR_len s
  obtain ⟨n, ts, us, hn, hm, hh⟩ := marks_sig (readSigR s).1 (readSigR s).1 (readSigR s).2.1 (readSigR s).2.2.1 (by omega) (by omega)
  by_cases h : (s.size : Int) > 1048576
  · exact Ev.pos h (Ev.now _)
  · refine Ev.neg h (Ev.bind (spec_ReadSig_ev s) (Ev.bind (impl_ReadSig_ev s) (Ev.bind (eqSig_refl _ _ _ (by omega) (by omega)) (Ev.pos rfl ?_))))
    refine Ev.step (f := fun k => (laws_markSig.f k (readSigR s).1 (readSigR s).2.1 (readSigR s).2.2.1 1).bind fun bt403 => ((laws_heldSig.f k (readSigR s).1 bt403.2.1 bt403.2.2 1).bind fun t406 => (if t406 < 0 then (some false) else (if t406 = bt403.1 then ((impl_ReadSig.f k s).bind fun bt407 => ((laws_eqSig.f k bt407.1 bt407.2.1 bt407.2.2.1 (readSigR s).1 (readSigR s).2.1 (readSigR s).2.2.1).bind fun t416 => (if t416 = true then (laws_FnExactReadSig.j1 k bt403.1 (bt407.2.2.2 != (readSigR s).2.2.2) (readSigR s).1 bt403.2.1 bt403.2.2) else (laws_FnExactReadSig.j1 k bt403.1 true (readSigR s).1 bt403.2.1 bt403.2.2)))) else (some false))))) (fun k => ?_) ?_
    · simp only [laws_FnExactReadSig.j0]
      rw [if_neg (by simp)]
    · refine Ev.bind hm (Ev.bind hh (Ev.neg (by omega) (Ev.pos rfl (Ev.bind (impl_ReadSig_ev s) (Ev.bind (eqSig_refl _ _ _ (by omega) (by omega)) (Ev.pos rfl ?_))))))
      refine Ev.step (f := fun k => (laws_heldSig.f k (readSigR s).1 ts us 1).bind fun t417 => (if t417 < 0 then (some false) else (if t417 = n then (some true) else (some false)))) (fun k => ?_) ?_
      · simp only [laws_FnExactReadSig.j1]
        rw [if_neg (by simp)]
      · exact Ev.bind hh (Ev.neg (by omega) (Ev.pos rfl (Ev.now _)))
end Go.Proofs.Ytmnnklealendcaa.Pure
