/- Public parts, roots and levels: the reference's and the program's. -/
import Derived.Test.YtojdllodojbnfaaDoorMZD
import Derived.Test.YtojdllodojbnfaaDoorPx1
import Derived.Test.YtojdllodojbnfaaDoorPx12
import Derived.Test.YtojdllodojbnfaaDoorPx13
import Derived.Test.YtojdllodojbnfaaDoorPx22
import Derived.Test.YtojdllodojbnfaaDoorPx23
import Derived.Test.YtojdllodojbnfaaDoorPx25
import Derived.Test.YtojdllodojbnfaaDoorPx26
import Derived.Test.YtojdllodojbnfaaDoorPx27
import Derived.Test.YtojdllodojbnfaaDoorPx28
namespace Go.Proofs.YtojdllodojbnfaaDoor.Pure
open Go.RowKit Go.Proofs.YtojdllodojbnfaaDoorW.PrintWords Go.Proofs.YtojdllodojbnfaaDoorW.PrintLast Go.Proofs.YtojdllodojbnfaaDoorW.PrintMore Go.Proofs.YtojdllodojbnfaaDoor.P Go.Proofs.YtojdllodojbnfaaDoor.Kit
set_option linter.unusedVariables false
set_option linter.unusedSimpArgs false

theorem spec_in (a b c : Int) : spec_l01In.f a b c = some (decide (b ≤ a ∧ a ≤ c)) := some_in a b c
theorem impl_in_eq (a b c : Int) : impl_in.f a b c = some (decide (b ≤ a ∧ a ≤ c)) := by
  unfold impl_in.f
  by_cases h : b ≤ a
  · rw [if_pos (by omega)]
    by_cases h2 : a ≤ c
    · rw [decide_eq_true h2, decide_eq_true ⟨h, h2⟩]
    · rw [decide_eq_false h2, decide_eq_false (fun q => h2 q.2)]
  · rw [if_neg (by omega), decide_eq_false (fun q => h q.1)]
theorem level_from (lv : Int) (l : List ByteArray) (hl : l.length ≤ 1048576) (hs : ∀ s ∈ l, s.size ≤ 1048576) : ∀ (n i : Nat) (acc : List ByteArray), acc.length = i → i + n = l.length / 2 → (∀ s ∈ acc, s.size = 4) →
    ∃ r, r.length = l.length / 2 ∧ (∀ s ∈ r, s.size = 4) ∧ Ev (fun k => spec_LevelUp.l0 k lv l acc (i : Int)) r ∧ Ev (fun k => impl_LevelUp.l0 k lv l acc ((2 * i : Nat) : Int)) r
  | 0, i, acc, ha, hn, h4 => by
    have e1 : wrap64 (2 * (i : Int)) = ((2 * i : Nat) : Int) := by rw [w64 (by omega) (by omega)]; omega
    have e2 : wrap64 (((2 * i : Nat) : Int) + 1) = ((2 * i + 1 : Nat) : Int) := by rw [w64 (by omega) (by omega)]; rfl
    refine ⟨acc, by omega, h4, ?_, ?_⟩
    · exact Ev.step (f := fun _ => some acc) (fun k => by simp only [spec_LevelUp.l0]; rw [e1, e2, if_neg (by omega)]) (Ev.now _)
    · exact Ev.step (f := fun _ => some acc) (fun k => by simp only [impl_LevelUp.l0]; rw [e2, if_neg (by omega)]) (Ev.now _)
  | n + 1, i, acc, ha, hn, h4 => by
    have e1 : wrap64 (2 * (i : Int)) = ((2 * i : Nat) : Int) := by rw [w64 (by omega) (by omega)]; omega
    have e2 : wrap64 (((2 * i : Nat) : Int) + 1) = ((2 * i + 1 : Nat) : Int) := by rw [w64 (by omega) (by omega)]; rfl
    have e3 : wrap64 (((2 * i : Nat) : Int) + 2) = ((2 * (i + 1) : Nat) : Int) := by rw [w64 (by omega) (by omega)]; omega
    have e4 : wrap64 (Int.tdiv ((2 * i : Nat) : Int) 2) = (i : Int) := by rw [Int.tdiv_eq_ediv_of_nonneg (by omega), w64 (by omega) (by omega)]; omega
    have h0 : 2 * i < l.length := by omega
    have h1 : 2 * i + 1 < l.length := by omega
    obtain ⟨d, d4, f1, f2⟩ := node_same lv (i : Int) (rdOf ByteArray.empty l ((2 * i : Nat) : Int)) (rdOf ByteArray.empty l ((2 * i + 1 : Nat) : Int)) (by rw [rdOf_get _ _ _ h0]; have := hs _ (List.getElem_mem h0); omega) (by rw [rdOf_get _ _ _ h1]; have := hs _ (List.getElem_mem h1); omega)
    obtain ⟨r, r1, r2, g1, g2⟩ := level_from lv l hl hs n (i + 1) (acc ++ [d]) (by simp; omega) (by omega) (by
      intro s hs'
      rcases List.mem_append.mp hs' with h | h
      · exact h4 s h
      · simp at h; subst h; exact d4)
    refine ⟨r, r1, r2, ?_, ?_⟩
    · refine Ev.step (f := fun k => (spec_Node.f k lv (i : Int) (rdOf ByteArray.empty l ((2 * i : Nat) : Int)) (rdOf ByteArray.empty l ((2 * i + 1 : Nat) : Int))).bind fun t => if acc.length < 8796093022208 then spec_LevelUp.l0 k lv l (acc ++ [t]) (wrap64 ((i : Int) + 1)) else none) (fun k => ?_) ?_
      · simp only [spec_LevelUp.l0]
        rw [e1, e2, if_pos (by omega), if_pos (by omega), if_pos (by omega), if_pos (by omega)]
      · refine Ev.bind f1 (Ev.pos (by omega) ?_)
        rw [w64s i (by omega)]
        exact g1
    · refine Ev.step (f := fun k => impl_LevelUp.l0 k lv l (acc ++ [d]) ((2 * (i + 1) : Nat) : Int)) (fun k => ?_) g2
      simp only [impl_LevelUp.l0]
      rw [e2, e3, e4, if_pos (by omega), if_pos (by omega), if_pos (by omega), if_pos (by omega), f2]
      simp only [Option.bind_some]
      rw [if_pos (by omega)]
theorem level_same (lv : Int) (l : List ByteArray) (hl : l.length ≤ 1048576) (hs : ∀ s ∈ l, s.size ≤ 1048576) : ∃ r, r.length = l.length / 2 ∧ (∀ s ∈ r, s.size = 4) ∧ Ev (fun k => spec_LevelUp.f k lv l) r ∧ Ev (fun k => impl_LevelUp.f k lv l) r :=
  level_from lv l hl hs (l.length / 2) 0 [] rfl (by omega) (by simp)
theorem rootOf_same (l : List ByteArray) (hs : ∀ s ∈ l, s.size ≤ 1048576) : ∃ d, d.size ≤ 4 ∧ (l.length = 4 → d.size = 4) ∧ Ev (fun k => spec_RootOf.f k l) d ∧ Ev (fun k => impl_RootOf.f k l) d := by
  by_cases h : l.length = 4
  · obtain ⟨r, r1, r2, f1, f2⟩ := level_same 1 l (by omega) hs
    obtain ⟨t, t1, t2, g1, g2⟩ := level_same 2 r (by omega) (fun s hs' => by rw [r2 s hs']; decide)
    have ht : t.length = 1 := by omega
    have h0 : 0 < t.length := by omega
    have e1 : wrap64 (1 + 1) = 2 := w64 (by decide) (by decide)
    have e2 : wrap64 (2 + 1) = 3 := w64 (by decide) (by decide)
    have ed : rdOf ByteArray.empty t 0 = t[0] := rdOf_get _ t 0 h0
    have d4 : (rdOf ByteArray.empty t 0).size = 4 := by rw [ed]; exact t2 _ (List.getElem_mem h0)
    refine ⟨rdOf ByteArray.empty t 0, by omega, fun _ => d4, ?_, ?_⟩
    · unfold spec_RootOf.f
      refine Ev.pos (by omega) ?_
      refine Ev.step (f := fun k => (spec_LevelUp.f k 1 l).bind fun t377 => spec_RootOf.l0 k t377 2) (fun k => by simp only [spec_RootOf.l0]; rw [if_pos (by decide), e1]) (Ev.bind f1 ?_)
      refine Ev.step (f := fun k => (spec_LevelUp.f k 2 r).bind fun t377 => spec_RootOf.l0 k t377 3) (fun k => by simp only [spec_RootOf.l0]; rw [if_pos (by decide), e2]) (Ev.bind g1 ?_)
      exact Ev.step (f := fun _ => some (rdOf ByteArray.empty t 0)) (fun k => by simp only [spec_RootOf.l0]; rw [if_neg (by decide), if_pos (by omega)]) (Ev.now _)
    · unfold impl_RootOf.f
      refine Ev.pos (by omega) ?_
      refine Ev.step (f := fun k => (impl_LevelUp.f k 1 l).bind fun t377 => impl_RootOf.l0 k t377 2) (fun k => by simp only [impl_RootOf.l0]; rw [if_pos (by omega), e1]) (Ev.bind f2 ?_)
      refine Ev.step (f := fun k => (impl_LevelUp.f k 2 r).bind fun t377 => impl_RootOf.l0 k t377 3) (fun k => by simp only [impl_RootOf.l0]; rw [if_pos (by omega), e2]) (Ev.bind g2 ?_)
      exact Ev.step (f := fun _ => some (rdOf ByteArray.empty t 0)) (fun k => by simp only [impl_RootOf.l0]; rw [if_neg (by omega), if_pos (by omega)]) (Ev.now _)
  · refine ⟨⟨#[]⟩, by decide, fun q => absurd q h, ?_, ?_⟩
    · unfold spec_RootOf.f
      exact Ev.neg (by omega) (Ev.now _)
    · unfold impl_RootOf.f
      exact Ev.neg (by omega) (Ev.now _)
theorem rootBy_from (l : List ByteArray) (hl : l.length = 2) (hs : ∀ s ∈ l, s.size ≤ 1048576) : ∀ (n i p : Nat) (x : ByteArray), i + n = 2 → p ≤ 3 → x.size ≤ 1048576 →
    ∃ d, (d = x ∨ d.size = 4) ∧ Ev (fun k => spec_RootBy.l0 k x (p : Int) l ((i + 1 : Nat) : Int)) d ∧ Ev (fun k => impl_RootBy.l0 k x (p : Int) l ((2 : Nat) : Int) (i : Int)) d
  | 0, i, p, x, hn, hp, hx => by
    refine ⟨x, Or.inl rfl, ?_, ?_⟩
    · exact Ev.step (f := fun _ => some x) (fun k => by simp only [spec_RootBy.l0]; rw [if_neg (by omega)]) (Ev.now _)
    · exact Ev.step (f := fun _ => some x) (fun k => by simp only [impl_RootBy.l0]; rw [if_neg (by omega)]) (Ev.now _)
  | n + 1, i, p, x, hn, hp, hx => by
    have hi : i < l.length := by omega
    have e1 : wrap64 (Int.tdiv (p : Int) 2) = ((p / 2 : Nat) : Int) := by rw [Int.tdiv_eq_ediv_of_nonneg (by omega), w64 (by omega) (by omega)]; omega
    have e2 : Int.tmod (p : Int) 2 = ((p % 2 : Nat) : Int) := by rw [Int.tmod_eq_emod_of_nonneg (by omega)]; omega
    have e3 : wrap64 (((i + 1 : Nat) : Int) - 1) = (i : Int) := by rw [w64 (by omega) (by omega)]; omega
    have hz : (rdOf ByteArray.empty l (i : Int)).size ≤ 1048576 := by rw [rdOf_get _ _ _ hi]; exact hs _ (List.getElem_mem hi)
    by_cases hb : p % 2 = 1
    · obtain ⟨d, d4, f1, f2⟩ := node_same ((i + 1 : Nat) : Int) ((p / 2 : Nat) : Int) (rdOf ByteArray.empty l (i : Int)) x (by omega) (by omega)
      obtain ⟨r, hr, g1, g2⟩ := rootBy_from l hl hs n (i + 1) (p / 2) d (by omega) (by omega) (by omega)
      refine ⟨r, Or.inr (by rcases hr with rfl | hr; exact d4; exact hr), ?_, ?_⟩
      · refine Ev.step (f := fun k => (spec_Node.f k ((i + 1 : Nat) : Int) ((p / 2 : Nat) : Int) (rdOf ByteArray.empty l (i : Int)) x).bind fun t => spec_RootBy.l0 k t ((p / 2 : Nat) : Int) l (wrap64 (((i + 1 : Nat) : Int) + 1))) (fun k => ?_) (Ev.bind f1 ?_)
        · simp only [spec_RootBy.l0]
          rw [e1, e2, e3, if_pos (by omega), if_pos (by omega), if_pos (by omega), if_pos (by omega)]
        · rw [w64s (i + 1) (by omega)]
          exact g1
      · refine Ev.step (f := fun k => impl_RootBy.l0 k d ((p / 2 : Nat) : Int) l ((2 : Nat) : Int) (wrap64 ((i : Int) + 1))) (fun k => ?_) ?_
        · simp only [impl_RootBy.l0]
          rw [e1, e2, w64s i (by omega), if_pos (by omega), if_pos (by omega), if_pos (by omega), if_neg (by omega), f2]
          rfl
        · rw [w64s i (by omega)]
          exact g2
    · obtain ⟨d, d4, f1, f2⟩ := node_same ((i + 1 : Nat) : Int) ((p / 2 : Nat) : Int) x (rdOf ByteArray.empty l (i : Int)) (by omega) (by omega)
      obtain ⟨r, hr, g1, g2⟩ := rootBy_from l hl hs n (i + 1) (p / 2) d (by omega) (by omega) (by omega)
      refine ⟨r, Or.inr (by rcases hr with rfl | hr; exact d4; exact hr), ?_, ?_⟩
      · refine Ev.step (f := fun k => (spec_Node.f k ((i + 1 : Nat) : Int) ((p / 2 : Nat) : Int) x (rdOf ByteArray.empty l (i : Int))).bind fun t => spec_RootBy.l0 k t ((p / 2 : Nat) : Int) l (wrap64 (((i + 1 : Nat) : Int) + 1))) (fun k => ?_) (Ev.bind f1 ?_)
        · simp only [spec_RootBy.l0]
          rw [e1, e2, e3, if_pos (by omega), if_neg (by omega), if_pos (by omega), if_pos (by omega)]
        · rw [w64s (i + 1) (by omega)]
          exact g1
      · refine Ev.step (f := fun k => impl_RootBy.l0 k d ((p / 2 : Nat) : Int) l ((2 : Nat) : Int) (wrap64 ((i : Int) + 1))) (fun k => ?_) ?_
        · simp only [impl_RootBy.l0]
          rw [e1, e2, w64s i (by omega), if_pos (by omega), if_pos (by omega), if_pos (by omega), if_pos (by omega), f2]
          rfl
        · rw [w64s i (by omega)]
          exact g2
theorem rootBy_same (x : ByteArray) (p : Int) (l : List ByteArray) (hx : x.size ≤ 1048576) (hs : ∀ s ∈ l, s.size ≤ 1048576) : ∃ d, d.size ≤ 1048576 ∧ Ev (fun k => spec_RootBy.f k x p l) d ∧ Ev (fun k => impl_RootBy.f k x p l) d := by
  have no1 : Ev (fun k => spec_RootBy.j0 k x p l true) (⟨#[]⟩ : ByteArray) := Ev.step (f := fun _ => some (⟨#[]⟩ : ByteArray)) (fun k => by simp only [spec_RootBy.j0]; rw [if_pos trivial]) (Ev.now _)
  have no2 : Ev (fun k => impl_RootBy.j0 k x p l true) (⟨#[]⟩ : ByteArray) := Ev.step (f := fun _ => some (⟨#[]⟩ : ByteArray)) (fun k => by simp only [impl_RootBy.j0]; rw [if_pos trivial]) (Ev.now _)
  by_cases hl : l.length = 2
  · by_cases hp : 0 ≤ p ∧ p ≤ 3
    · obtain ⟨q, rfl⟩ := Int.eq_ofNat_of_zero_le hp.1
      obtain ⟨d, hd, f1, f2⟩ := rootBy_from l hl hs 2 0 q x rfl (by omega) hx
      refine ⟨d, by rcases hd with rfl | hd <;> omega, ?_, ?_⟩
      · unfold spec_RootBy.f
        refine Ev.pos (by omega) (Ev.then (spec_in _ _ _) ?_)
        rw [decide_eq_true hp]
        exact Ev.step (f := fun k => spec_RootBy.l0 k x (q : Int) l 1) (fun k => by simp only [spec_RootBy.j0]; rw [if_neg (by decide)]) f1
      · unfold impl_RootBy.f
        refine Ev.pos (by omega) (Ev.then (impl_in_eq _ _ _) ?_)
        rw [decide_eq_true hp]
        refine Ev.step (f := fun k => impl_RootBy.l0 k x (q : Int) l (l.length : Int) 0) (fun k => by simp only [impl_RootBy.j0]; rw [if_neg (by decide)]) ?_
        rw [hl]
        exact f2
    · refine ⟨⟨#[]⟩, by decide, ?_, ?_⟩
      · unfold spec_RootBy.f
        refine Ev.pos (by omega) (Ev.then (spec_in _ _ _) ?_)
        rw [decide_eq_false hp]
        exact no1
      · unfold impl_RootBy.f
        refine Ev.pos (by omega) (Ev.then (impl_in_eq _ _ _) ?_)
        rw [decide_eq_false hp]
        exact no2
  · refine ⟨⟨#[]⟩, by decide, ?_, ?_⟩
    · unfold spec_RootBy.f
      exact Ev.neg (by omega) no1
    · unfold impl_RootBy.f
      exact Ev.neg (by omega) no2
end Go.Proofs.YtojdllodojbnfaaDoor.Pure
