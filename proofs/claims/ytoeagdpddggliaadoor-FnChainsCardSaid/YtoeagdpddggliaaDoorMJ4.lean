/- Drawing: places. -/
import Derived.Test.YtoeagdpddggliaaDoorMJ2
import Derived.Test.YtoeagdpddggliaaDoorPx10
namespace Go.Proofs.YtoeagdpddggliaaDoor.Pure
open Go.RowKit Go.Proofs.YtoeagdpddggliaaDoorW.PrintWords Go.Proofs.YtoeagdpddggliaaDoorW.PrintLast Go.Proofs.YtoeagdpddggliaaDoorW.PrintMore Go.Proofs.YtoeagdpddggliaaDoor.P
theorem place_some (l : List Int) (i h n : Int) (hc : Cur l i) (hn : 0 < n) : ∃ x i' h', spec_l01Place.f l i h n = some (x, i', h') ∧ Cur l i' := by
  obtain ⟨b, i1, h1, e1, c1⟩ := once_some l i h 15 hc (by decide)
  unfold spec_l01Place.f
  rw [e1]
  simp only [Option.bind_some]
  cases b with
  | true =>
    obtain ⟨x, i2, h2, e2, _, c2⟩ := pickInt_some l i1 h1 [(-1), n, wrap64 (n + 1), 9223372036854775807, (-9223372036854775808)] c1 (by simp)
    rw [if_pos rfl, e2]
    exact ⟨x, i2, h2, rfl, c2⟩
  | false =>
    obtain ⟨x, i2, h2, e2, _, _, c2⟩ := below_some l i1 h1 n c1 hn
    rw [if_neg (by decide), e2]
    exact ⟨x, i2, h2, rfl, c2⟩
end Go.Proofs.YtoeagdpddggliaaDoor.Pure
