/- Public parts of keys: the reference's and the program's. -/
import Derived.Test.YtoeagdpddggliaaDoorMZD
import Derived.Test.YtoeagdpddggliaaDoorPx20
import Derived.Test.YtoeagdpddggliaaDoorPx21
import Derived.Test.YtoeagdpddggliaaDoorPx27
import Derived.Test.YtoeagdpddggliaaDoorPx31
import Derived.Test.YtoeagdpddggliaaDoorPx32
namespace Go.Proofs.YtoeagdpddggliaaDoor.Pure
open Go.RowKit Go.Proofs.YtoeagdpddggliaaDoorW.PrintWords Go.Proofs.YtoeagdpddggliaaDoorW.PrintLast Go.Proofs.YtoeagdpddggliaaDoorW.PrintMore Go.Proofs.YtoeagdpddggliaaDoor.P Go.Proofs.YtoeagdpddggliaaDoor.Kit
set_option linter.unusedVariables false
set_option linter.unusedSimpArgs false

theorem public_from (leaf : Int) (l : List ByteArray) (hl : l.length = 10) (hs : ∀ s ∈ l, s.size ≤ 1048576) : ∀ (n i : Nat) (acc : ByteArray), i + n = 10 → acc.size ≤ i * 1048576 →
    ∃ d, d.size = 4 ∧ Ev (fun k => spec_OncePublic.l0 k l leaf acc (i : Int)) d ∧ Ev (fun k => impl_chopped_OncePublic_1_OncePublic_2.l0 k leaf acc l ((10 : Nat) : Int) (i : Int)) d
  | 0, i, acc, hn, ha => by
    obtain ⟨d, d4, f1, f2⟩ := chop_same acc (by omega)
    refine ⟨d, d4, ?_, ?_⟩
    · refine Ev.step (f := fun k => (spec_Chop.f k acc).bind fun t => some t) (fun k => by simp only [spec_OncePublic.l0]; rw [if_neg (by omega)]) (Ev.bind f1 (Ev.now _))
    · refine Ev.step (f := fun _ => some d) (fun k => by simp only [impl_chopped_OncePublic_1_OncePublic_2.l0]; rw [if_neg (by omega), f2]; rfl) (Ev.now _)
  | n + 1, i, acc, hn, ha => by
    have hi : i < l.length := by omega
    have hz : (rdOf ByteArray.empty l (i : Int)).size ≤ 1048576 := by rw [rdOf_get _ _ _ hi]; exact hs _ (List.getElem_mem hi)
    obtain ⟨c, hc, e1, e2⟩ := chain_same (rdOf ByteArray.empty l (i : Int)) leaf (i : Int) 0 15 (by omega)
    have hc4 : c.size ≤ 1048576 := by rcases hc with rfl | hc <;> omega
    obtain ⟨d, d4, g1, g2⟩ := public_from leaf l hl hs n (i + 1) (acc ++ c) (by omega) (by rw [ByteArray.size_append]; omega)
    refine ⟨d, d4, ?_, ?_⟩
    · refine Ev.step (f := fun k => (spec_ChainOf.f k (rdOf ByteArray.empty l (i : Int)) leaf (i : Int) 0 15).bind fun t => if acc.size + t.size ≤ 9223372036854775807 then spec_OncePublic.l0 k l leaf (acc ++ t) (wrap64 ((i : Int) + 1)) else none) (fun k => ?_) (Ev.bind e1 (Ev.pos (by omega) ?_))
      · simp only [spec_OncePublic.l0]
        rw [if_pos (by omega), if_pos (by omega), if_pos (by omega)]
      · rw [w64s i (by omega)]
        exact g1
    · refine Ev.step (f := fun k => (impl_ChainOf.f k (rdOf ByteArray.empty l (i : Int)) leaf (i : Int) 0 15).bind fun t => if acc.size + t.size ≤ 9223372036854775807 then impl_chopped_OncePublic_1_OncePublic_2.l0 k leaf (acc ++ t) l ((10 : Nat) : Int) (wrap64 ((i : Int) + 1)) else none) (fun k => ?_) (Ev.bind e2 (Ev.pos (by omega) ?_))
      · simp only [impl_chopped_OncePublic_1_OncePublic_2.l0]
        rw [if_pos (by omega), if_pos (by omega), if_pos (by omega)]
        rfl
      · rw [w64s i (by omega)]
        exact g2
theorem public_same (l : List ByteArray) (leaf : Int) (hs : ∀ s ∈ l, s.size ≤ 1048576) : ∃ d, d.size ≤ 4 ∧ Ev (fun k => spec_OncePublic.f k l leaf) d ∧ Ev (fun k => impl_OncePublic.f k l leaf) d := by
  by_cases hl : l.length = 10
  · obtain ⟨d, d4, f1, f2⟩ := public_from leaf l hl hs 10 0 ⟨#[]⟩ rfl (by decide)
    refine ⟨d, by omega, ?_, ?_⟩
    · unfold spec_OncePublic.f
      exact Ev.pos (by omega) f1
    · unfold impl_OncePublic.f
      refine Ev.bind ?_ (Ev.now _)
      unfold impl_chopped_OncePublic_1_OncePublic_2.f
      refine Ev.pos (by omega) ?_
      rw [hl]
      exact f2
  · refine ⟨⟨#[]⟩, by decide, ?_, ?_⟩
    · unfold spec_OncePublic.f
      exact Ev.neg (by omega) (Ev.now _)
    · unfold impl_OncePublic.f
      refine Ev.bind ?_ (Ev.now _)
      unfold impl_chopped_OncePublic_1_OncePublic_2.f
      exact Ev.neg (by omega) (Ev.now _)
end Go.Proofs.YtoeagdpddggliaaDoor.Pure
