/- Chains and keys that are used once: the reference's and the program's. -/
import Derived.Test.YtoeagdpddggliaaDoorMZC
import Derived.Test.YtoeagdpddggliaaDoorPx11
import Derived.Test.YtoeagdpddggliaaDoorPx12
import Derived.Test.YtoeagdpddggliaaDoorPx14
import Derived.Test.YtoeagdpddggliaaDoorPx15
namespace Go.Proofs.YtoeagdpddggliaaDoor.Pure
open Go.RowKit Go.Proofs.YtoeagdpddggliaaDoorW.PrintWords Go.Proofs.YtoeagdpddggliaaDoorW.PrintLast Go.Proofs.YtoeagdpddggliaaDoorW.PrintMore Go.Proofs.YtoeagdpddggliaaDoor.P Go.Proofs.YtoeagdpddggliaaDoor.Kit
set_option linter.unusedVariables false
set_option linter.unusedSimpArgs false

theorem three_size (a b c : Int) : ((byteD a ++ byteD b) ++ byteD c).size = 3 := by
  rw [ByteArray.size_append, ByteArray.size_append, byteD_size, byteD_size, byteD_size]
theorem two_size (a b : Int) : (byteD a ++ byteD b).size = 2 := by
  rw [ByteArray.size_append, byteD_size, byteD_size]
theorem byteD_mod (x y : Int) (h : x % 256 = y % 256) : byteD x = byteD y := by unfold byteD; rw [h]
theorem wrap64_mod (x : Int) : wrap64 x % 256 = x % 256 := by unfold wrap64; omega
/-- The place of a step, as both spell it. -/
theorem at_same (a : Int) (i : Nat) (hi : i ≤ 1000) : byteD (wrap64 (a + (i : Int))) = byteD (wrap64 ((Int.tmod a 256) + (i : Int))) := by
  have h := tmod_bounds a
  exact byteD_mod _ _ (by rw [wrap64_mod, wrap64_mod]; omega)
/-- A chain from step i on, where n steps are left. -/
theorem chain_from (leaf chain a steps : Int) : ∀ (n i : Nat) (x : ByteArray), x.size ≤ 999999990 → ((i : Int) + (n : Int) = mn steps 15 ∨ n = 0 ∧ mn steps 15 ≤ (i : Int)) → i + n ≤ 15 →
    ∃ d, (d = x ∨ d.size = 4) ∧ Ev (fun k => spec_ChainOf.l0 k x leaf chain a steps (i : Int)) d ∧ Ev (fun k => impl_ChainOf.l0 k x leaf chain a (mn steps 15) (i : Int)) d
  | 0, i, x, hx, hn, h15 => by
    have hle : mn steps 15 ≤ (i : Int) := by omega
    refine ⟨x, Or.inl rfl, ?_, ?_⟩
    · by_cases h1 : (i : Int) < steps
      · refine Ev.step (f := fun k => spec_ChainOf.j1 k x leaf chain a steps (i : Int) (decide ((i : Int) < 15))) (fun k => by simp only [spec_ChainOf.l0]; rw [if_pos h1]) ?_
        have h2 : ¬ (i : Int) < 15 := by unfold mn at hle; split at hle <;> omega
        rw [decide_eq_false h2]
        refine Ev.step (f := fun _ => some x) (fun k => by simp only [spec_ChainOf.j1]; rw [if_neg (by decide)]) (Ev.now _)
      · refine Ev.step (f := fun k => spec_ChainOf.j1 k x leaf chain a steps (i : Int) false) (fun k => by simp only [spec_ChainOf.l0]; rw [if_neg h1]) ?_
        refine Ev.step (f := fun _ => some x) (fun k => by simp only [spec_ChainOf.j1]; rw [if_neg (by decide)]) (Ev.now _)
    · refine Ev.step (f := fun _ => some x) (fun k => by simp only [impl_ChainOf.l0]; rw [if_neg (by omega)]) (Ev.now _)
  | n + 1, i, x, hx, hn, h15 => by
    have hm : (i : Int) < mn steps 15 := by omega
    have h1 : (i : Int) < steps := by unfold mn at hm; split at hm <;> omega
    have h2 : (i : Int) < 15 := by omega
    have s2 := two_size leaf chain
    obtain ⟨d, d4, e1, e2⟩ := chop_same (((byteD leaf ++ byteD chain) ++ byteD (wrap64 ((Int.tmod a 256) + (i : Int)))) ++ x) (by rw [ByteArray.size_append, three_size]; omega)
    obtain ⟨r, hr, f1, f2⟩ := chain_from leaf chain a steps n (i + 1) d (by omega) (by left; push_cast; omega) (by omega)
    have s3 := three_size leaf chain (wrap64 ((Int.tmod a 256) + (i : Int)))
    have b1 := byteD_size leaf
    have b2 := byteD_size chain
    have b3 := byteD_size (wrap64 ((Int.tmod a 256) + (i : Int)))
    refine ⟨r, ?_, ?_, ?_⟩
    · right
      rcases hr with rfl | hr
      · exact d4
      · exact hr
    · refine Ev.step (f := fun k => spec_ChainOf.j1 k x leaf chain a steps (i : Int) (decide ((i : Int) < 15))) (fun k => by simp only [spec_ChainOf.l0]; rw [if_pos h1]) ?_
      rw [decide_eq_true h2]
      refine Ev.step (f := fun k => (spec_Chop.f k (((byteD leaf ++ byteD chain) ++ byteD (wrap64 ((Int.tmod a 256) + (i : Int)))) ++ x)).bind fun t => spec_ChainOf.l0 k t leaf chain a steps (wrap64 ((i : Int) + 1))) (fun k => ?_) ?_
      · simp only [spec_ChainOf.j1]
        rw [if_pos trivial, l06Byte_eq, l06Byte_eq]
        simp only [Option.bind_some]
        rw [if_pos (by omega), l06Byte_eq]
        simp only [Option.bind_some]
        rw [if_pos (by omega), if_pos (by omega)]
      · refine Ev.bind e1 ?_
        rw [w64s i (by omega)]
        exact f1
    · refine Ev.step (f := fun k => impl_ChainOf.l0 k d leaf chain a (mn steps 15) (wrap64 ((i : Int) + 1))) (fun k => ?_) ?_
      · simp only [impl_ChainOf.l0]
        rw [if_pos hm, oneByte_eq, oneByte_eq]
        simp only [Option.bind_some]
        rw [if_pos (by omega), oneByte_eq, at_same a i (by omega)]
        simp only [Option.bind_some]
        rw [if_pos (by omega), if_pos (by omega), e2]
        rfl
      · rw [w64s i (by omega)]
        exact f2
theorem chain_same (x : ByteArray) (leaf chain a steps : Int) (hx : x.size ≤ 999999990) : ∃ d, (d = x ∨ d.size = 4) ∧ Ev (fun k => spec_ChainOf.f k x leaf chain a steps) d ∧ Ev (fun k => impl_ChainOf.f k x leaf chain a steps) d := by
  by_cases h : 0 ≤ mn steps 15
  · have h15 : mn steps 15 ≤ 15 := by unfold mn; split <;> omega
    exact chain_from leaf chain a steps (mn steps 15).toNat 0 x hx (by left; omega) (by omega)
  · exact chain_from leaf chain a steps 0 0 x hx (by right; omega) (by omega)
/-- The keys' texts: one of each. -/
theorem oneKey_same (seed : ByteArray) (leaf c : Int) (hs : seed.size ≤ 999999990) : ∃ d, d.size = 4 ∧ Ev (fun k => spec_Chop.f k (((seed ++ byteD leaf) ++ byteD c) ++ (⟨#[111]⟩ : ByteArray))) d ∧ impl_Chop.f (((seed ++ byteD leaf) ++ byteD c) ++ (⟨#[111]⟩ : ByteArray)) = some d := by
  refine chop_same _ ?_
  rw [ByteArray.size_append, ByteArray.size_append, ByteArray.size_append, byteD_size, byteD_size]
  show _ + 1 ≤ _
  omega
end Go.Proofs.YtoeagdpddggliaaDoor.Pure
