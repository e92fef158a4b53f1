/- Short digests, nodes and chains: the reference's and the program's. -/
import Derived.Test.YtojdllodojbnfaaDoorMZ4
import Derived.Test.YtojdllodojbnfaaDoorPx7
import Derived.Test.YtojdllodojbnfaaDoorPx8
namespace Go.Proofs.YtojdllodojbnfaaDoor.Pure
open Go.RowKit Go.Proofs.YtojdllodojbnfaaDoorW.PrintWords Go.Proofs.YtojdllodojbnfaaDoorW.PrintLast Go.Proofs.YtojdllodojbnfaaDoorW.PrintMore Go.Proofs.YtojdllodojbnfaaDoor.P Go.Proofs.YtojdllodojbnfaaDoor.Kit
set_option linter.unusedVariables false
set_option linter.unusedSimpArgs false

/-- One byte. -/
def byteD (n : Int) : ByteArray := strOfNums [n % 256]
theorem byteD_size (n : Int) : (byteD n).size = 1 := by simp [byteD, strOfNums_size]
theorem tmod_bounds (n : Int) : -256 < Int.tmod n 256 ∧ Int.tmod n 256 < 256 ∧ (Int.tmod n 256) % 256 = n % 256 := by
  have h := Int.mul_tdiv_add_tmod n 256
  have h1 := Int.tmod_lt_of_pos n (show (0 : Int) < 256 by decide)
  have h2 := Int.lt_tmod_of_pos n (show (0 : Int) < 256 by decide)
  refine ⟨h2, h1, ?_⟩
  omega
theorem chop_same (s : ByteArray) (hs : s.size ≤ 1000000000) : ∃ d, d.size = 4 ∧ Ev (fun k => spec_Chop.f k s) d ∧ impl_Chop.f s = some d := by
  obtain ⟨d, h1, h2, h3⟩ := digest_same s hs
  refine ⟨d.extract 0 4, by rw [ByteArray.size_extract]; omega, ?_, ?_⟩
  · unfold spec_Chop.f
    exact Ev.bind h2 (Ev.pos (by decide) (Ev.pos (by omega) (Ev.now _)))
  · unfold impl_Chop.f
    rw [h3]
    simp only [Option.bind_some]
    rw [if_pos (by decide), if_pos (by omega)]
end Go.Proofs.YtojdllodojbnfaaDoor.Pure
