/- Signatures by keys that are used once: the reference's and the program's. -/
import Derived.Test.YtoeagdpddggliaaDoorMZD
import Derived.Test.YtoeagdpddggliaaDoorMZI
import Derived.Test.YtoeagdpddggliaaDoorPx14
import Derived.Test.YtoeagdpddggliaaDoorPx15
import Derived.Test.YtoeagdpddggliaaDoorPx16
import Derived.Test.YtoeagdpddggliaaDoorPx17
namespace Go.Proofs.YtoeagdpddggliaaDoor.Pure
open Go.RowKit Go.Proofs.YtoeagdpddggliaaDoorW.PrintWords Go.Proofs.YtoeagdpddggliaaDoorW.PrintLast Go.Proofs.YtoeagdpddggliaaDoorW.PrintMore Go.Proofs.YtoeagdpddggliaaDoor.P Go.Proofs.YtoeagdpddggliaaDoor.Kit
set_option linter.unusedVariables false
set_option linter.unusedSimpArgs false

theorem sign_from (leaf : Int) (l : List ByteArray) (ds : List Int) (hl : l.length = 10) (hd : ds.length = 10) (hs : ∀ s ∈ l, s.size ≤ 1048576) : ∀ (n i : Nat) (acc : List ByteArray), acc.length = i → i + n = 10 → (∀ s ∈ acc, s.size ≤ 1048576) →
    ∃ r, r.length = 10 ∧ (∀ s ∈ r, s.size ≤ 1048576) ∧ Ev (fun k => spec_OnceSign.l0 k l leaf acc ds (i : Int)) r ∧ Ev (fun k => impl_OnceSign.l0 k leaf ds acc l ((10 : Nat) : Int) (i : Int)) r
  | 0, i, acc, ha, hn, h4 => by
    refine ⟨acc, by omega, h4, ?_, ?_⟩
    · exact Ev.step (f := fun _ => some acc) (fun k => by simp only [spec_OnceSign.l0]; rw [if_neg (by omega)]) (Ev.now _)
    · exact Ev.step (f := fun _ => some acc) (fun k => by simp only [impl_OnceSign.l0]; rw [if_neg (by omega)]) (Ev.now _)
  | n + 1, i, acc, ha, hn, h4 => by
    have hi : i < l.length := by omega
    have hz : (rdOf ByteArray.empty l (i : Int)).size ≤ 1048576 := by rw [rdOf_get _ _ _ hi]; exact hs _ (List.getElem_mem hi)
    obtain ⟨c, hc, e1, e2⟩ := chain_same (rdOf ByteArray.empty l (i : Int)) leaf (i : Int) 0 (rd ds (i : Int)) (by omega)
    have hc4 : c.size ≤ 1048576 := by rcases hc with rfl | hc <;> omega
    obtain ⟨r, r1, r2, g1, g2⟩ := sign_from leaf l ds hl hd hs n (i + 1) (acc ++ [c]) (by simp; omega) (by omega) (by
      intro s hs'
      rcases List.mem_append.mp hs' with h | h
      · exact h4 s h
      · simp at h; subst h; exact hc4)
    refine ⟨r, r1, r2, ?_, ?_⟩
    · refine Ev.step (f := fun k => (spec_ChainOf.f k (rdOf ByteArray.empty l (i : Int)) leaf (i : Int) 0 (rd ds (i : Int))).bind fun t => if acc.length < 8796093022208 then spec_OnceSign.l0 k l leaf (acc ++ [t]) ds (wrap64 ((i : Int) + 1)) else none) (fun k => ?_) (Ev.bind e1 (Ev.pos (by omega) ?_))
      · simp only [spec_OnceSign.l0]
        rw [if_pos (by omega), if_pos (by omega), if_pos (by omega), if_pos (by omega)]
      · rw [w64s i (by omega)]
        exact g1
    · refine Ev.step (f := fun k => (impl_ChainOf.f k (rdOf ByteArray.empty l (i : Int)) leaf (i : Int) 0 (rd ds (i : Int))).bind fun t => if acc.length < 8796093022208 then impl_OnceSign.l0 k leaf ds (acc ++ [t]) l ((10 : Nat) : Int) (wrap64 ((i : Int) + 1)) else none) (fun k => ?_) (Ev.bind e2 (Ev.pos (by omega) ?_))
      · simp only [impl_OnceSign.l0]
        rw [if_pos (by omega), if_pos (by omega), if_pos (by omega), if_pos (by omega)]
      · rw [w64s i (by omega)]
        exact g2
theorem sign_same (l : List ByteArray) (leaf : Int) (m : ByteArray) (hm : m.size ≤ 1000000000) (hs : ∀ s ∈ l, s.size ≤ 1048576) : ∃ r, r.length ≤ 10 ∧ (l.length = 10 → r.length = 10) ∧ (∀ s ∈ r, s.size ≤ 1048576) ∧ Ev (fun k => spec_OnceSign.f k l leaf m) r ∧ Ev (fun k => impl_OnceSign.f k l leaf m) r := by
  by_cases hl : l.length = 10
  · obtain ⟨ds, d1, d2, f1, f2⟩ := digits_same m hm
    obtain ⟨r, r1, r2, g1, g2⟩ := sign_from leaf l ds hl d1 hs 10 0 [] rfl rfl (by simp)
    refine ⟨r, by omega, fun _ => r1, r2, ?_, ?_⟩
    · unfold spec_OnceSign.f
      exact Ev.then rfl (Ev.pos (by omega) (Ev.bind f1 g1))
    · unfold impl_OnceSign.f
      refine Ev.pos (by omega) (Ev.bind f2 ?_)
      rw [hl]
      exact g2
  · refine ⟨[], by simp, fun q => absurd q hl, by simp, ?_, ?_⟩
    · unfold spec_OnceSign.f
      exact Ev.then rfl (Ev.neg (by omega) (Ev.now _))
    · unfold impl_OnceSign.f
      exact Ev.neg (by omega) (Ev.now _)
end Go.Proofs.YtoeagdpddggliaaDoor.Pure
