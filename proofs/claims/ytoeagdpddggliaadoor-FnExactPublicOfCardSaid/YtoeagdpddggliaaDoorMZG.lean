/- Public parts of trees: the reference's and the program's. -/
import Derived.Test.YtoeagdpddggliaaDoorMZE
import Derived.Test.YtoeagdpddggliaaDoorMZF
import Derived.Test.YtoeagdpddggliaaDoorPx27
import Derived.Test.YtoeagdpddggliaaDoorPx28
import Derived.Test.YtoeagdpddggliaaDoorPx32
import Derived.Test.YtoeagdpddggliaaDoorPx33
namespace Go.Proofs.YtoeagdpddggliaaDoor.Pure
open Go.RowKit Go.Proofs.YtoeagdpddggliaaDoorW.PrintWords Go.Proofs.YtoeagdpddggliaaDoorW.PrintLast Go.Proofs.YtoeagdpddggliaaDoorW.PrintMore Go.Proofs.YtoeagdpddggliaaDoor.P Go.Proofs.YtoeagdpddggliaaDoor.Kit
set_option linter.unusedVariables false
set_option linter.unusedSimpArgs false

theorem leaf_same (seed : ByteArray) (c : Int) (hs : seed.size ≤ 999999990) : ∃ ks p, p.size ≤ 4 ∧ ks.length = 10 ∧ (∀ s ∈ ks, s.size = 4) ∧ Ev (fun k => spec_OnceKey.f k seed c) ks ∧ Ev (fun k => impl_OnceKey.f k seed c) ks ∧ Ev (fun k => spec_OncePublic.f k ks c) p ∧ Ev (fun k => impl_OncePublic.f k ks c) p := by
  obtain ⟨ks, k1, k2, f1, f2⟩ := onceKey_same seed c hs
  obtain ⟨p, p1, g1, g2⟩ := public_same ks c (fun s h => by rw [k2 s h]; decide)
  exact ⟨ks, p, p1, k1, k2, f1, f2, g1, g2⟩
theorem leaves_from (seed : ByteArray) (hs : seed.size ≤ 999999990) : ∀ (n i : Nat) (l : List ByteArray), l.length = i → i + n = 4 → (∀ s ∈ l, s.size ≤ 4) →
    ∃ r, r.length = 4 ∧ (∀ s ∈ r, s.size ≤ 4) ∧ Ev (fun k => spec_l16Leaves.l0 k seed l (i : Int)) r ∧ Ev (fun k => impl_leavesOf.l0 k seed l (i : Int)) r
  | 0, i, l, hl, hn, h4 => by
    refine ⟨l, by omega, h4, ?_, ?_⟩
    · exact Ev.step (f := fun _ => some l) (fun k => by simp only [spec_l16Leaves.l0]; rw [if_neg (by omega)]) (Ev.now _)
    · exact Ev.step (f := fun _ => some l) (fun k => by simp only [impl_leavesOf.l0]; rw [if_neg (by omega)]) (Ev.now _)
  | n + 1, i, l, hl, hn, h4 => by
    obtain ⟨ks, p, p4, _, _, f1, f2, g1, g2⟩ := leaf_same seed (i : Int) hs
    obtain ⟨r, r1, r2, e1, e2⟩ := leaves_from seed hs n (i + 1) (l ++ [p]) (by simp; omega) (by omega) (by
      intro s hs'
      rcases List.mem_append.mp hs' with h | h
      · exact h4 s h
      · simp at h; subst h; exact p4)
    refine ⟨r, r1, r2, ?_, ?_⟩
    · refine Ev.step (f := fun k => (spec_OnceKey.f k seed (i : Int)).bind fun t => ((spec_OncePublic.f k t (i : Int)).bind fun u => if l.length < 8796093022208 then spec_l16Leaves.l0 k seed (l ++ [u]) (wrap64 ((i : Int) + 1)) else none)) (fun k => by simp only [spec_l16Leaves.l0]; rw [if_pos (by omega)]) (Ev.bind f1 (Ev.bind g1 (Ev.pos (by omega) ?_)))
      rw [w64s i (by omega)]
      exact e1
    · refine Ev.step (f := fun k => (impl_OnceKey.f k seed (i : Int)).bind fun t => ((impl_OncePublic.f k t (i : Int)).bind fun u => if l.length < 8796093022208 then impl_leavesOf.l0 k seed (l ++ [u]) (wrap64 ((i : Int) + 1)) else none)) (fun k => by simp only [impl_leavesOf.l0]; rw [if_pos (by omega)]) (Ev.bind f2 (Ev.bind g2 (Ev.pos (by omega) ?_)))
      rw [w64s i (by omega)]
      exact e2
theorem leaves_same (seed : ByteArray) (hs : seed.size ≤ 999999990) : ∃ r, r.length = 4 ∧ (∀ s ∈ r, s.size ≤ 4) ∧ Ev (fun k => spec_l16Leaves.f k seed) r ∧ Ev (fun k => impl_leavesOf.f k seed) r :=
  leaves_from seed hs 4 0 [] rfl rfl (by simp)
theorem publicOf_same (seed : ByteArray) (hs : seed.size ≤ 999999990) : ∃ d, d.size = 4 ∧ Ev (fun k => spec_PublicOf.f k seed) d ∧ Ev (fun k => impl_PublicOf.f k seed) d := by
  obtain ⟨r, r1, r2, f1, f2⟩ := leaves_same seed hs
  obtain ⟨d, _, d4, g1, g2⟩ := rootOf_same r (fun s h => by have := r2 s h; omega)
  refine ⟨d, d4 r1, ?_, ?_⟩
  · unfold spec_PublicOf.f
    exact Ev.bind f1 (Ev.bind g1 (Ev.now _))
  · unfold impl_PublicOf.f
    exact Ev.bind f2 (Ev.bind g2 (Ev.now _))
theorem hyperPublic_same (seed : ByteArray) (hs : seed.size ≤ 999999980) : ∃ d, d.size = 4 ∧ Ev (fun k => spec_HyperPublic.f k seed) d ∧ Ev (fun k => impl_HyperPublic.f k seed) d := by
  obtain ⟨d, d4, f1, f2⟩ := publicOf_same (seed ++ (⟨#[116]⟩ : ByteArray)) (by rw [ByteArray.size_append]; show _ + 1 ≤ _; omega)
  refine ⟨d, d4, ?_, ?_⟩
  · unfold spec_HyperPublic.f
    exact Ev.pos (by omega) (Ev.bind f1 (Ev.now _))
  · unfold impl_HyperPublic.f
    exact Ev.pos (by omega) (Ev.bind f2 (Ev.now _))
end Go.Proofs.YtoeagdpddggliaaDoor.Pure
