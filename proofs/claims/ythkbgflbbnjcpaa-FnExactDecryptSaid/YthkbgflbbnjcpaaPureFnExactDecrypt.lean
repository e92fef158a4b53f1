/- The law on Decrypt: for every secret and every cipher the program and the reference answer the same text and the same bool. -/
import Derived.Test.YthkbgflbbnjcpaaMYY
import Derived.Test.YthkbgflbbnjcpaaPx20
namespace Go.Proofs.Ythkbgflbbnjcpaa.Pure
open Go.RowKit Go.Proofs.YthkbgflbbnjcpaaW.PrintWords Go.Proofs.YthkbgflbbnjcpaaW.PrintLast Go.Proofs.YthkbgflbbnjcpaaW.PrintMore Go.Proofs.Ythkbgflbbnjcpaa.P

theorem decrypt_any (s c : ByteArray) : ∃ R : ByteArray × Bool, Ev (fun k => spec_Decrypt.f k s c) R ∧ Ev (fun k => impl_Decrypt.f k s c) R := by
  obtain ⟨R, hR, so, io⟩ := open_any s c
  unfold spec_Decrypt.f impl_Decrypt.f
  by_cases h : R.2 = true
  · exact ⟨(packV 1 (sqV R.1 1), true), Ev.bind so (Ev.pos h (Ev.bind (spec_l13Squeezed_ev R.1 1 (by decide) (by decide) hR) (Ev.now _))), Ev.bind io (Ev.pos h (Ev.bind (impl_squeezed_ev R.1 1 hR) (Ev.bind (impl_sq_packed_ev R.1 1 (by decide) (by decide) hR) (Ev.now _))))⟩
  · exact ⟨(⟨#[]⟩, false), Ev.bind so (Ev.neg h (Ev.now _)), Ev.bind io (Ev.neg h (Ev.now _))⟩
theorem FnExactDecrypt : laws_FnExactDecrypt.Pure := by
  intro s c _ _
  refine Ev.rounds ?_
  unfold laws_FnExactDecrypt.f
  by_cases h : (s.size : Int) > 1048576
  · exact Ev.pos h (Ev.now _)
  by_cases h2 : (c.size : Int) > 1048576
  · exact Ev.neg h (Ev.pos h2 (Ev.now _))
  obtain ⟨R, e1, e2⟩ := decrypt_any s c
  exact Ev.neg h (Ev.neg h2 (Ev.bind e1 (Ev.bind e2 (Ev.pos rfl (Ev.neg (by simp) (Ev.now _))))))
end Go.Proofs.Ythkbgflbbnjcpaa.Pure
