/- The law on chains: a chain that goes some steps, and then some more, is as it goes them all. -/
import Derived.Test.YtoeagdpddggliaaDoorMZD
import Derived.Test.YtoeagdpddggliaaDoorMJ
import Derived.Test.YtoeagdpddggliaaDoorMJ2
import Derived.Test.YtoeagdpddggliaaDoorMJ4
import Derived.Test.YtoeagdpddggliaaDoorPx8
import Derived.Test.YtoeagdpddggliaaDoorPx10
import Derived.Test.YtoeagdpddggliaaDoorPx20
import Derived.Test.YtoeagdpddggliaaDoorPx22
namespace Go.Proofs.YtoeagdpddggliaaDoor.Pure
set_option linter.unusedVariables false
open Go.RowKit Go.Proofs.YtoeagdpddggliaaDoorW.PrintWords Go.Proofs.YtoeagdpddggliaaDoorW.PrintLast Go.Proofs.YtoeagdpddggliaaDoorW.PrintMore Go.Proofs.YtoeagdpddggliaaDoor.P

def stp (leaf chain : Int) (s : Nat) (x : ByteArray) : ByteArray := (impl_Chop.f (((byteD leaf ++ byteD chain) ++ byteD (s : Int)) ++ x)).getD ⟨#[]⟩
def runV (leaf chain : Int) : Nat → Nat → ByteArray → ByteArray
  | _, 0, x => x
  | s, n + 1, x => runV leaf chain (s + 1) n (stp leaf chain s x)
theorem runV_add (leaf chain : Int) (m : Nat) : ∀ (n s : Nat) (x : ByteArray), runV leaf chain s (n + m) x = runV leaf chain (s + n) m (runV leaf chain s n x)
  | 0, s, x => by simp [runV]
  | n + 1, s, x => by
    rw [show n + 1 + m = (n + m) + 1 by omega]
    simp only [runV]
    rw [runV_add leaf chain m n (s + 1), show s + 1 + n = s + (n + 1) by omega]
theorem stp_eq (leaf chain : Int) (s : Nat) (x : ByteArray) (hx : x.size ≤ 999999990) : impl_Chop.f (((byteD leaf ++ byteD chain) ++ byteD (s : Int)) ++ x) = some (stp leaf chain s x) ∧ (stp leaf chain s x).size = 4 := by
  obtain ⟨d, d4, _, h⟩ := chop_same (((byteD leaf ++ byteD chain) ++ byteD (s : Int)) ++ x) (by rw [ByteArray.size_append, three_size]; omega)
  unfold stp
  rw [h]
  exact ⟨rfl, d4⟩
theorem runV_size (leaf chain : Int) : ∀ (n s : Nat) (x : ByteArray), x.size ≤ 999999990 → (runV leaf chain s n x).size ≤ 999999990
  | 0, _, _, h => h
  | n + 1, s, x, h => runV_size leaf chain n (s + 1) _ (by rw [(stp_eq leaf chain s x h).2]; decide)
theorem chain_run (leaf chain : Int) (a N : Nat) (ha : a ≤ 100) (hN : N ≤ 15) : ∀ (n i : Nat) (x : ByteArray), x.size ≤ 999999990 → i + n = N → Ev (fun k => impl_ChainOf.l0 k x leaf chain (a : Int) (N : Int) (i : Int)) (runV leaf chain (a + i) n x)
  | 0, i, x, hx, hn => Ev.step (f := fun _ => some x) (fun k => by simp only [impl_ChainOf.l0]; rw [if_neg (by omega)]) (Ev.now _)
  | n + 1, i, x, hx, hn => by
    obtain ⟨e, e4⟩ := stp_eq leaf chain (a + i) x hx
    have ih := chain_run leaf chain a N ha hN n (i + 1) (stp leaf chain (a + i) x) (by rw [e4]; decide) (by omega)
    have s2 := two_size leaf chain
    have s3 := three_size leaf chain ((a + i : Nat) : Int)
    have b1 := byteD_size leaf
    have b2 := byteD_size chain
    have b3 := byteD_size ((a + i : Nat) : Int)
    refine Ev.step (f := fun k => impl_ChainOf.l0 k (stp leaf chain (a + i) x) leaf chain (a : Int) (N : Int) (wrap64 ((i : Int) + 1))) (fun k => ?_) ?_
    · simp only [impl_ChainOf.l0]
      rw [if_pos (by omega), oneByte_eq, oneByte_eq]
      simp only [Option.bind_some]
      rw [if_pos (by omega), oneByte_eq, show wrap64 ((a : Int) + (i : Int)) = ((a + i : Nat) : Int) by rw [w64 (by omega) (by omega)]; rfl]
      simp only [Option.bind_some]
      rw [if_pos (by omega), if_pos (by omega), e]
      rfl
    · rw [w64s i (by omega)]
      exact ih
theorem chain_ev (leaf chain : Int) (a n : Nat) (x : ByteArray) (ha : a ≤ 100) (hn : n ≤ 15) (hx : x.size ≤ 999999990) : Ev (fun k => impl_ChainOf.f k x leaf chain (a : Int) (n : Int)) (runV leaf chain a n x) := by
  unfold impl_ChainOf.f
  rw [show mn (n : Int) 15 = (n : Int) by unfold mn; rw [if_neg (by omega)]]
  exact chain_run leaf chain a n ha hn n 0 x hx (by omega)
theorem Ev.uniq {α : Type} {f : Nat → Option α} {a b : α} (h : Ev f a) (k : Ev f b) : a = b := by
  obtain ⟨K, h⟩ := h
  obtain ⟨L, k⟩ := k
  have h1 := h (max K L) (Nat.le_max_left _ _)
  have h2 := k (max K L) (Nat.le_max_right _ _)
  exact Option.some.inj (h1.symm.trans h2)
theorem drawChain_some (l : List Int) (hl : l.length ≤ 1048576) : ∃ (x : ByteArray) (a b c d : Int), x.size ≤ 6 ∧ Ev (fun k => spec_DrawChainOf.f k l) (x, a, b, c, d) := by
  obtain ⟨h, e0, c0⟩ := new_some l hl
  obtain ⟨n, i1, h1, e1, n0, n1, c1⟩ := below_some l 0 h 6 c0 (by decide)
  obtain ⟨t, i2, h2, e2, ts, c2⟩ := text_some l i1 h1 n c1 (by omega)
  obtain ⟨a, i3, h3, e3, c3⟩ := place_some l i2 h2 4 c2 (by decide)
  obtain ⟨b, i4, h4, e4, c4⟩ := place_some l i3 h3 10 c3 (by decide)
  obtain ⟨c, i5, h5, e5, c5⟩ := place_some l i4 h4 16 c4 (by decide)
  obtain ⟨d, i6, h6, e6, c6⟩ := place_some l i5 h5 16 c5 (by decide)
  refine ⟨t, a, b, c, d, by omega, ?_⟩
  unfold spec_DrawChainOf.f
  exact Ev.bind e0 (Ev.then e1 (Ev.bind e2 (Ev.then e3 (Ev.then e4 (Ev.then e5 (Ev.then e6 (Ev.now _)))))))
theorem FnChains : laws_FnChains.Pure := by
  intro l _ _ _
  refine Ev.rounds ?_
  unfold laws_FnChains.f
  by_cases hb : (l.length : Int) > 1048576
  · exact Ev.then (a := true) (by unfold laws_big.f; rw [decide_eq_true hb]) (Ev.pos rfl (Ev.now _))
  refine Ev.then (a := false) (by unfold laws_big.f; rw [decide_eq_false hb]) (Ev.neg (by decide) ?_)
  obtain ⟨x, a, b, c, d, hx, e1⟩ := drawChain_some l (by omega)
  obtain ⟨ps, e2, pl, pr⟩ := places_some l (by omega)
  refine Ev.bind e1 (Ev.bind e2 (Ev.pos (by omega) (Ev.pos (by omega) ?_)))
  have r0 := pr (rd ps 0) (by rw [show (0 : Int) = ((0 : Nat) : Int) from rfl, rd_get ps 0 (by omega)]; exact List.getElem_mem _)
  have r1 := pr (rd ps 1) (by rw [show (1 : Int) = ((1 : Nat) : Int) from rfl, rd_get ps 1 (by omega)]; exact List.getElem_mem _)
  obtain ⟨u0, u1⟩ := tmod_range (x := rd ps 0) (n := 8) r0.1 (by decide)
  obtain ⟨v0, v1⟩ := tmod_range (x := rd ps 1) (n := 8) r1.1 (by decide)
  obtain ⟨u, hu⟩ := Int.eq_ofNat_of_zero_le u0
  obtain ⟨v, hv⟩ := Int.eq_ofNat_of_zero_le v0
  rw [hu, hv]
  rw [hu] at u1
  rw [hv] at v1
  have f1 := chain_ev a b 0 u x (by omega) (by omega) (by omega)
  have hs := runV_size a b u 0 x (by omega)
  have f2 := chain_ev a b u v _ (by omega) (by omega) hs
  have f3 := chain_ev a b 0 (u + v) x (by omega) (by omega) (by omega)
  have f4 := chain_ev a b 3 0 x (by omega) (by omega) (by omega)
  obtain ⟨w, _, g1, g2⟩ := chain_same (runV a b 0 u x) a b (u : Int) (v : Int) hs
  have hw : w = runV a b u v (runV a b 0 u x) := Ev.uniq g2 f2
  obtain ⟨z, z4, _, hz⟩ := chop_same x (by omega)
  have hadd := runV_add a b v u 0 x
  rw [Nat.zero_add] at hadd
  have huv : wrap64 ((u : Int) + (v : Int)) = ((u + v : Nat) : Int) := by rw [w64 (by omega) (by omega)]; rfl
  rw [huv]
  refine Ev.bind f1 (Ev.bind f2 (Ev.bind f3 (Ev.pos (by rw [hadd]) (Ev.bind f4 (Ev.pos rfl (Ev.bind g1 (Ev.pos (by rw [hw]) (Ev.then hz ?_))))))))
  rw [z4]
  exact Ev.now _
end Go.Proofs.YtoeagdpddggliaaDoor.Pure
