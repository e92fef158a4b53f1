/- ReadHyper, of the program and of the reference. -/
import Derived.Test.YtcpgpjggnghpdaaMI
import Derived.Test.YtcpgpjggnghpdaaPx66
import Derived.Test.YtcpgpjggnghpdaaPx68
namespace Go.Proofs.Ytcpgpjggnghpdaa.Pure
open Go.RowKit Go.Proofs.YtcpgpjggnghpdaaW.PrintWords Go.Proofs.YtcpgpjggnghpdaaW.PrintLast Go.Proofs.YtcpgpjggnghpdaaW.PrintMore Go.Proofs.Ytcpgpjggnghpdaa.P

def readHyperR (s : ByteArray) : Int × List ByteArray × List ByteArray × ByteArray × Int × List ByteArray × List ByteArray × Bool :=
  if s.size = 102 ∧ (readSigR (s.extract 0 49)).2.2.2 = true ∧ (readSigR (s.extract 53 102)).2.2.2 = true then
    ((readSigR (s.extract 0 49)).1, (readSigR (s.extract 0 49)).2.1, (readSigR (s.extract 0 49)).2.2.1, s.extract 49 53, (readSigR (s.extract 53 102)).1, (readSigR (s.extract 53 102)).2.1, (readSigR (s.extract 53 102)).2.2.1, true)
  else (0, [], [], ⟨#[]⟩, 0, [], [], false)
theorem readHyperR_len (s : ByteArray) : (readHyperR s).2.1.length ≤ 1000 ∧ (readHyperR s).2.2.1.length ≤ 1000 ∧ (readHyperR s).2.2.2.2.2.1.length ≤ 1000 ∧ (readHyperR s).2.2.2.2.2.2.1.length ≤ 1000 := by
  have h1 := readSigR_len (s.extract 0 49)
  have h2 := readSigR_len (s.extract 53 102)
  unfold readHyperR
  split
  · exact ⟨Nat.le_trans h1.1 (by omega), Nat.le_trans h1.2 (by omega), Nat.le_trans h2.1 (by omega), Nat.le_trans h2.2 (by omega)⟩
  · exact ⟨by simp, by simp, by simp, by simp⟩
theorem readHyperR_pos (s : ByteArray) (h0 : s.size = 102) (h1 : (readSigR (s.extract 0 49)).2.2.2 = true) (h2 : (readSigR (s.extract 53 102)).2.2.2 = true) :
    readHyperR s = ((readSigR (s.extract 0 49)).1, (readSigR (s.extract 0 49)).2.1, (readSigR (s.extract 0 49)).2.2.1, s.extract 49 53, (readSigR (s.extract 53 102)).1, (readSigR (s.extract 53 102)).2.1, (readSigR (s.extract 53 102)).2.2.1, true) := if_pos ⟨h0, h1, h2⟩
theorem readHyperR_neg (s : ByteArray) (h : ¬ (s.size = 102 ∧ (readSigR (s.extract 0 49)).2.2.2 = true ∧ (readSigR (s.extract 53 102)).2.2.2 = true)) : readHyperR s = (0, [], [], ⟨#[]⟩, 0, [], [], false) := if_neg h
theorem spec_ReadHyper_ev (s : ByteArray) : Ev (fun k => spec_ReadHyper.f k s) (readHyperR s) := by
  unfold spec_ReadHyper.f
  by_cases hs : s.size = 102
  · refine Ev.pos (by omega) (Ev.pos (by omega) (Ev.pos (by omega) (Ev.bind (spec_ReadSig_ev _) (Ev.pos (by omega) ?_))))
    have e53 : s.extract 53 s.size = s.extract 53 102 := by rw [hs]
    rw [e53]
    refine Ev.bind (spec_ReadSig_ev _) ?_
    by_cases h1 : (readSigR (s.extract 0 49)).2.2.2 = true
    · refine Ev.pos h1 ?_
      by_cases h2 : (readSigR (s.extract 53 102)).2.2.2 = true
      · refine Ev.pos h2 (Ev.pos (by omega) ?_)
        rw [readHyperR_pos s hs h1 h2]
        exact Ev.now _
      · refine Ev.neg h2 ?_
        rw [readHyperR_neg s (fun h => h2 h.2.2)]
        exact Ev.now _
    · refine Ev.neg h1 ?_
      rw [readHyperR_neg s (fun h => h1 h.2.1)]
      exact Ev.now _
  · refine Ev.neg (by omega) ?_
    rw [readHyperR_neg s (fun h => hs h.1)]
    exact Ev.now _
theorem impl_ReadHyper_ev (s : ByteArray) : Ev (fun k => impl_ReadHyper.f k s) (readHyperR s) := by
  unfold impl_ReadHyper.f
  by_cases hs : s.size = 102
  · refine Ev.pos (by omega) (Ev.pos (by omega) (Ev.pos (by omega) (Ev.bind (impl_ReadSig_ev _) (Ev.pos (by omega) ?_))))
    have e53 : s.extract 53 s.size = s.extract 53 102 := by rw [hs]
    rw [e53]
    refine Ev.bind (impl_ReadSig_ev _) ?_
    by_cases h1 : (readSigR (s.extract 0 49)).2.2.2 = true
    · refine Ev.pos h1 ?_
      by_cases h2 : (readSigR (s.extract 53 102)).2.2.2 = true
      · refine Ev.pos h2 (Ev.pos (by omega) ?_)
        rw [readHyperR_pos s hs h1 h2]
        exact Ev.now _
      · refine Ev.neg h2 ?_
        rw [readHyperR_neg s (fun h => h2 h.2.2)]
        exact Ev.now _
    · refine Ev.neg h1 ?_
      rw [readHyperR_neg s (fun h => h1 h.2.1)]
      exact Ev.now _
  · refine Ev.neg (by omega) ?_
    rw [readHyperR_neg s (fun h => hs h.1)]
    exact Ev.now _
end Go.Proofs.Ytcpgpjggnghpdaa.Pure
