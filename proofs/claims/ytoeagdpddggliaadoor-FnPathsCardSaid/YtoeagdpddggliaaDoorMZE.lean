/- Public parts, roots and levels: the reference's and the program's. -/
import Derived.Test.YtoeagdpddggliaaDoorMZD
import Derived.Test.YtoeagdpddggliaaDoorPx1
import Derived.Test.YtoeagdpddggliaaDoorPx6
import Derived.Test.YtoeagdpddggliaaDoorPx25
import Derived.Test.YtoeagdpddggliaaDoorPx26
import Derived.Test.YtoeagdpddggliaaDoorPx27
import Derived.Test.YtoeagdpddggliaaDoorPx30
import Derived.Test.YtoeagdpddggliaaDoorPx31
namespace Go.Proofs.YtoeagdpddggliaaDoor.Pure
open Go.RowKit Go.Proofs.YtoeagdpddggliaaDoorW.PrintWords Go.Proofs.YtoeagdpddggliaaDoorW.PrintLast Go.Proofs.YtoeagdpddggliaaDoorW.PrintMore Go.Proofs.YtoeagdpddggliaaDoor.P Go.Proofs.YtoeagdpddggliaaDoor.Kit
set_option linter.unusedVariables false
set_option linter.unusedSimpArgs false

theorem spec_in (a b c : Int) : spec_l01In.f a b c = some (decide (b ≤ a ∧ a ≤ c)) := some_in a b c
theorem impl_in_eq (a b c : Int) : impl_in.f a b c = some (decide (b ≤ a ∧ a ≤ c)) := by
  unfold impl_in.f
  by_cases h : b ≤ a
  · rw [if_pos (by omega)]
    by_cases h2 : a ≤ c
    · rw [decide_eq_true h2, decide_eq_true ⟨h, h2⟩]
    · rw [decide_eq_false h2, decide_eq_false (fun q => h2 q.2)]
  · rw [if_neg (by omega), decide_eq_false (fun q => h q.1)]
theorem level_from (lv : Int) (l : List ByteArray) (hl : l.length ≤ 1048576) (hs : ∀ s ∈ l, s.size ≤ 1048576) : ∀ (n i : Nat) (acc : List ByteArray), acc.length = i → i + n = l.length / 2 → (∀ s ∈ acc, s.size = 4) →
    ∃ r, r.length = l.length / 2 ∧ (∀ s ∈ r, s.size = 4) ∧ Ev (fun k => spec_LevelUp.l0 k lv l acc (i : Int)) r ∧ Ev (fun k => impl_LevelUp.l0 k lv l acc ((2 * i : Nat) : Int)) r
  | 0, i, acc, ha, hn, h4 => by
    have e1 : wrap64 (2 * (i : Int)) = ((2 * i : Nat) : Int) := by rw [w64 (by omega) (by omega)]; omega
    have e2 : wrap64 (((2 * i : Nat) : Int) + 1) = ((2 * i + 1 : Nat) : Int) := by rw [w64 (by omega) (by omega)]; rfl
    refine ⟨acc, by omega, h4, ?_, ?_⟩
    · exact Ev.step (f := fun _ => some acc) (fun k => by simp only [spec_LevelUp.l0]; rw [e1, e2, if_neg (by omega)]) (Ev.now _)
    · exact Ev.step (f := fun _ => some acc) (fun k => by simp only [impl_LevelUp.l0]; rw [e2, if_neg (by omega)]) (Ev.now _)
  | n + 1, i, acc, ha, hn, h4 => by
    have e1 : wrap64 (2 * (i : Int)) = ((2 * i : Nat) : Int) := by rw [w64 (by omega) (by omega)]; omega
    have e2 : wrap64 (((2 * i : Nat) : Int) + 1) = ((2 * i + 1 : Nat) : Int) := by rw [w64 (by omega) (by omega)]; rfl
    have e3 : wrap64 (((2 * i : Nat) : Int) + 2) = ((2 * (i + 1) : Nat) : Int) := by rw [w64 (by omega) (by omega)]; omega
    have e4 : wrap64 (Int.tdiv ((2 * i : Nat) : Int) 2) = (i : Int) := by rw [Int.tdiv_eq_ediv_of_nonneg (by omega), w64 (by omega) (by omega)]; omega
    have h0 : 2 * i < l.length := by omega
    have h1 : 2 * i + 1 < l.length := by omega
    obtain ⟨d, d4, f1, f2⟩ := node_same lv (i : Int) (rdOf ByteArray.empty l ((2 * i : Nat) : Int)) (rdOf ByteArray.empty l ((2 * i + 1 : Nat) : Int)) (by rw [rdOf_get _ _ _ h0]; have := hs _ (List.getElem_mem h0); omega) (by rw [rdOf_get _ _ _ h1]; have := hs _ (List.getElem_mem h1); omega)
    obtain ⟨r, r1, r2, g1, g2⟩ := level_from lv l hl hs n (i + 1) (acc ++ [d]) (by simp; omega) (by omega) (by
      intro s hs'
      rcases List.mem_append.mp hs' with h | h
      · exact h4 s h
      · simp at h; subst h; exact d4)
    refine ⟨r, r1, r2, ?_, ?_⟩
    · refine Ev.step (f := fun k => (spec_Node.f k lv (i : Int) (rdOf ByteArray.empty l ((2 * i : Nat) : Int)) (rdOf ByteArray.empty l ((2 * i + 1 : Nat) : Int))).bind fun t => if acc.length < 8796093022208 then spec_LevelUp.l0 k lv l (acc ++ [t]) (wrap64 ((i : Int) + 1)) else none) (fun k => ?_) ?_
      · simp only [spec_LevelUp.l0]
        rw [e1, e2, if_pos (by omega), if_pos (by omega), if_pos (by omega), if_pos (by omega)]
      · refine Ev.bind f1 (Ev.pos (by omega) ?_)
        rw [w64s i (by omega)]
        exact g1
    · refine Ev.step (f := fun k => impl_LevelUp.l0 k lv l (acc ++ [d]) ((2 * (i + 1) : Nat) : Int)) (fun k => ?_) g2
      simp only [impl_LevelUp.l0]
      rw [e2, e3, e4, if_pos (by omega), if_pos (by omega), if_pos (by omega), if_pos (by omega), f2]
      simp only [Option.bind_some]
      rw [if_pos (by omega)]
theorem level_same (lv : Int) (l : List ByteArray) (hl : l.length ≤ 1048576) (hs : ∀ s ∈ l, s.size ≤ 1048576) : ∃ r, r.length = l.length / 2 ∧ (∀ s ∈ r, s.size = 4) ∧ Ev (fun k => spec_LevelUp.f k lv l) r ∧ Ev (fun k => impl_LevelUp.f k lv l) r :=
  level_from lv l hl hs (l.length / 2) 0 [] rfl (by omega) (by simp)
theorem rootOf_same (l : List ByteArray) (hs : ∀ s ∈ l, s.size ≤ 1048576) : ∃ d, d.size ≤ 4 ∧ (l.length = 4 → d.size = 4) ∧ Ev (fun k => spec_RootOf.f k l) d ∧ Ev (fun k => impl_RootOf.f k l) d := by
  by_cases h : l.length = 4
  · obtain ⟨r, r1, r2, f1, f2⟩ := level_same 1 l (by omega) hs
    obtain ⟨t, t1, t2, g1, g2⟩ := level_same 2 r (by omega) (fun s hs' => by rw [r2 s hs']; decide)
    have ht : t.length = 1 := by omega
    have h0 : 0 < t.length := by omega
    have e1 : wrap64 (1 + 1) = 2 := w64 (by decide) (by decide)
    have e2 : wrap64 (2 + 1) = 3 := w64 (by decide) (by decide)
    have ed : rdOf ByteArray.empty t 0 = t[0] := rdOf_get _ t 0 h0
    have d4 : (rdOf ByteArray.empty t 0).size = 4 := by rw [ed]; exact t2 _ (List.getElem_mem h0)
    refine ⟨rdOf ByteArray.empty t 0, by omega, fun _ => d4, ?_, ?_⟩
    · unfold spec_RootOf.f
      refine Ev.pos (by omega) ?_
      refine Ev.step (f := fun k => (spec_LevelUp.f k 1 l).bind fun t377 => spec_RootOf.l0 k t377 2) (fun k => by simp only [spec_RootOf.l0]; rw [if_pos (by decide), e1]) (Ev.bind f1 ?_)
      refine Ev.step (f := fun k => (spec_LevelUp.f k 2 r).bind fun t377 => spec_RootOf.l0 k t377 3) (fun k => by simp only [spec_RootOf.l0]; rw [if_pos (by decide), e2]) (Ev.bind g1 ?_)
      exact Ev.step (f := fun _ => some (rdOf ByteArray.empty t 0)) (fun k => by simp only [spec_RootOf.l0]; rw [if_neg (by decide), if_pos (by omega)]) (Ev.now _)
    · unfold impl_RootOf.f
      refine Ev.pos (by omega) ?_
      refine Ev.step (f := fun k => (impl_LevelUp.f k 1 l).bind fun t377 => impl_RootOf.l0 k t377 2) (fun k => by simp only [impl_RootOf.l0]; rw [if_pos (by omega), e1]) (Ev.bind f2 ?_)
      refine Ev.step (f := fun k => (impl_LevelUp.f k 2 r).bind fun t377 => impl_RootOf.l0 k t377 3) (fun k => by simp only [impl_RootOf.l0]; rw [if_pos (by omega), e2]) (Ev.bind g2 ?_)
      exact Ev.step (f := fun _ => some (rdOf ByteArray.empty t 0)) (fun k => by simp only [impl_RootOf.l0]; rw [if_neg (by omega), if_pos (by omega)]) (Ev.now _)
  · refine ⟨⟨#[]⟩, by decide, fun q => absurd q h, ?_, ?_⟩
    · unfold spec_RootOf.f
      exact Ev.neg (by omega) (Ev.now _)
    · unfold impl_RootOf.f
      exact Ev.neg (by omega) (Ev.now _)
end Go.Proofs.YtoeagdpddggliaaDoor.Pure
