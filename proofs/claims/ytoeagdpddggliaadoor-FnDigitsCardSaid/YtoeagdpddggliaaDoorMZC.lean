/- Short digests, nodes and chains: the reference's and the program's. -/
import Derived.Test.YtoeagdpddggliaaDoorMZ4
import Derived.Test.YtoeagdpddggliaaDoorPx8
import Derived.Test.YtoeagdpddggliaaDoorPx11
import Derived.Test.YtoeagdpddggliaaDoorPx12
namespace Go.Proofs.YtoeagdpddggliaaDoor.Pure
open Go.RowKit Go.Proofs.YtoeagdpddggliaaDoorW.PrintWords Go.Proofs.YtoeagdpddggliaaDoorW.PrintLast Go.Proofs.YtoeagdpddggliaaDoorW.PrintMore Go.Proofs.YtoeagdpddggliaaDoor.P Go.Proofs.YtoeagdpddggliaaDoor.Kit
set_option linter.unusedVariables false
set_option linter.unusedSimpArgs false

/-- One byte. -/
def byteD (n : Int) : ByteArray := strOfNums [n % 256]
theorem byteD_size (n : Int) : (byteD n).size = 1 := by simp [byteD, strOfNums_size]
theorem oneByte_eq (n : Int) : impl_oneByte.f n = some (byteD n) := rfl
theorem tmod_bounds (n : Int) : -256 < Int.tmod n 256 ∧ Int.tmod n 256 < 256 ∧ (Int.tmod n 256) % 256 = n % 256 := by
  have h := Int.mul_tdiv_add_tmod n 256
  have h1 := Int.tmod_lt_of_pos n (show (0 : Int) < 256 by decide)
  have h2 := Int.lt_tmod_of_pos n (show (0 : Int) < 256 by decide)
  refine ⟨h2, h1, ?_⟩
  omega
theorem l06Byte_eq (n : Int) : spec_l06Byte.f n = some (byteD n) := by
  obtain ⟨h1, h2, h3⟩ := tmod_bounds n
  unfold spec_l06Byte.f byteD
  split
  · rw [w64 (by omega) (by omega), show (Int.tmod n 256 + 256) % 256 = n % 256 by omega]
  · rw [h3]
theorem chop_same (s : ByteArray) (hs : s.size ≤ 1000000000) : ∃ d, d.size = 4 ∧ Ev (fun k => spec_Chop.f k s) d ∧ impl_Chop.f s = some d := by
  obtain ⟨d, h1, h2, h3⟩ := digest_same s hs
  refine ⟨d.extract 0 4, by rw [ByteArray.size_extract]; omega, ?_, ?_⟩
  · unfold spec_Chop.f
    exact Ev.bind h2 (Ev.pos (by decide) (Ev.pos (by omega) (Ev.now _)))
  · unfold impl_Chop.f
    rw [h3]
    simp only [Option.bind_some]
    rw [if_pos (by decide), if_pos (by omega)]
end Go.Proofs.YtoeagdpddggliaaDoor.Pure
