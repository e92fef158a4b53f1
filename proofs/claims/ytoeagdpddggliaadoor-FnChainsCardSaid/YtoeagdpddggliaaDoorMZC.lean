/- Short digests, nodes and chains: the reference's and the program's. -/
import Derived.Test.YtoeagdpddggliaaDoorMZ4
import Derived.Test.YtoeagdpddggliaaDoorPx6
import Derived.Test.YtoeagdpddggliaaDoorPx8
import Derived.Test.YtoeagdpddggliaaDoorPx20
import Derived.Test.YtoeagdpddggliaaDoorPx25
import Derived.Test.YtoeagdpddggliaaDoorPx29
namespace Go.Proofs.YtoeagdpddggliaaDoor.Pure
open Go.RowKit Go.Proofs.YtoeagdpddggliaaDoorW.PrintWords Go.Proofs.YtoeagdpddggliaaDoorW.PrintLast Go.Proofs.YtoeagdpddggliaaDoorW.PrintMore Go.Proofs.YtoeagdpddggliaaDoor.P Go.Proofs.YtoeagdpddggliaaDoor.Kit
set_option linter.unusedVariables false
set_option linter.unusedSimpArgs false

/-- One byte. -/
def byteD (n : Int) : ByteArray := strOfNums [n % 256]
theorem byteD_size (n : Int) : (byteD n).size = 1 := by simp [byteD, strOfNums_size]
theorem oneByte_eq (n : Int) : impl_oneByte.f n = some (byteD n) := rfl
theorem tmod_bounds (n : Int) : -256 < Int.tmod n 256 ∧ Int.tmod n 256 < 256 ∧ (Int.tmod n 256) % 256 = n % 256 := by
  have h := Int.mul_tdiv_add_tmod n 256
  have h1 := Int.tmod_lt_of_pos n (show (0 : Int) < 256 by decide)
  have h2 := Int.lt_tmod_of_pos n (show (0 : Int) < 256 by decide)
  refine ⟨h2, h1, ?_⟩
  omega
theorem l06Byte_eq (n : Int) : spec_l06Byte.f n = some (byteD n) := by
  obtain ⟨h1, h2, h3⟩ := tmod_bounds n
  unfold spec_l06Byte.f byteD
  split
  · rw [w64 (by omega) (by omega), show (Int.tmod n 256 + 256) % 256 = n % 256 by omega]
  · rw [h3]
theorem chop_same (s : ByteArray) (hs : s.size ≤ 1000000000) : ∃ d, d.size = 4 ∧ Ev (fun k => spec_Chop.f k s) d ∧ impl_Chop.f s = some d := by
  obtain ⟨d, h1, h2, h3⟩ := digest_same s hs
  refine ⟨d.extract 0 4, by rw [ByteArray.size_extract]; omega, ?_, ?_⟩
  · unfold spec_Chop.f
    exact Ev.bind h2 (Ev.pos (by decide) (Ev.pos (by omega) (Ev.now _)))
  · unfold impl_Chop.f
    rw [h3]
    simp only [Option.bind_some]
    rw [if_pos (by decide), if_pos (by omega)]
theorem node_same (a b : Int) (s t : ByteArray) (hs : s.size ≤ 400000000) (ht : t.size ≤ 400000000) : ∃ d, d.size = 4 ∧ Ev (fun k => spec_Node.f k a b s t) d ∧ impl_Node.f a b s t = some d := by
  have ha := byteD_size a
  have hb := byteD_size b
  have hz : (byteD a ++ byteD b).size = 2 := by rw [ByteArray.size_append]; omega
  have hz2 : ((byteD a ++ byteD b) ++ s).size = 2 + s.size := by rw [ByteArray.size_append]; omega
  have hz3 : (((byteD a ++ byteD b) ++ s) ++ t).size = 2 + s.size + t.size := by rw [ByteArray.size_append]; omega
  obtain ⟨d, h1, h2, h3⟩ := chop_same ((((byteD a ++ byteD b) ++ s) ++ t) ++ (⟨#[110]⟩ : ByteArray)) (by rw [ByteArray.size_append]; show _ + 1 ≤ _; omega)
  refine ⟨d, h1, ?_, ?_⟩
  · unfold spec_Node.f
    refine Ev.then (l06Byte_eq a) (Ev.then (l06Byte_eq b) ?_)
    exact Ev.pos (by omega) (Ev.pos (by omega) (Ev.pos (by omega) (Ev.pos (by omega) (Ev.bind h2 (Ev.now _)))))
  · unfold impl_Node.f
    rw [oneByte_eq, oneByte_eq]
    simp only [Option.bind_some]
    rw [if_pos (by omega), if_pos (by omega), if_pos (by omega), if_pos (by omega), h3]
    rfl
end Go.Proofs.YtoeagdpddggliaaDoor.Pure
