/- Drawn lists of numbers for packs, and drawn bytes of such. -/
import Derived.Test.YthkbgflbbnjcpaaMJ2
import Derived.Test.YthkbgflbbnjcpaaMPK
import Derived.Test.YthkbgflbbnjcpaaPx2
import Derived.Test.YthkbgflbbnjcpaaPx3
import Derived.Test.YthkbgflbbnjcpaaPx4
import Derived.Test.YthkbgflbbnjcpaaPx14
namespace Go.Proofs.Ythkbgflbbnjcpaa.Pure
open Go.RowKit Go.Proofs.YthkbgflbbnjcpaaW.PrintWords Go.Proofs.YthkbgflbbnjcpaaW.PrintLast Go.Proofs.YthkbgflbbnjcpaaW.PrintMore Go.Proofs.Ythkbgflbbnjcpaa.P

theorem two_b {b : Int} (h0 : 0 ≤ b) (h1 : b ≤ 13) : (1 : Int) ≤ 2 ^ b.toNat ∧ (2 : Int) ^ b.toNat ≤ 8192 := by
  have h : b = 0 ∨ b = 1 ∨ b = 2 ∨ b = 3 ∨ b = 4 ∨ b = 5 ∨ b = 6 ∨ b = 7 ∨ b = 8 ∨ b = 9 ∨ b = 10 ∨ b = 11 ∨ b = 12 ∨ b = 13 := by omega
  rcases h with rfl | rfl | rfl | rfl | rfl | rfl | rfl | rfl | rfl | rfl | rfl | rfl | rfl | rfl <;> decide
theorem drawPack_l0 (l : List Int) (b : Int) (hb0 : 0 ≤ b) (hb1 : b ≤ 13) (d : Nat) : ∀ (n : Nat) (p : List Int) (i h : Int), 12 - n = d → n ≤ 12 → Cur l i → p.length = n →
    ∃ q : List Int, Ev (fun k => spec_DrawPack.l0 k b p (n : Int) l i h) (q, b) ∧ q.length ≤ 12 := by
  have tail : ∀ (n : Nat) (p : List Int) (i h : Int), n ≤ 12 → Cur l i → p.length = n → ∃ q : List Int, Ev (fun k => (if (p.length : Int) > 0 then ((spec_l01Once.f l i h 10).bind fun bt150 => (spec_DrawPack.j1 k b p bt150.1 l bt150.2.1 bt150.2.2)) else (spec_DrawPack.j1 k b p false l i h))) (q, b) ∧ q.length ≤ 12 := by
    intro n p i h hn hc hp
    have no : ∀ i h : Int, Ev (fun k => spec_DrawPack.j1 k b p false l i h) (p, b) := fun i h => by
      refine Ev.step (f := fun _ => some (p, b)) (fun k => ?_) (Ev.now _)
      simp only [spec_DrawPack.j1]
      rw [if_neg (by decide)]
    by_cases hp0 : (p.length : Int) > 0
    · obtain ⟨o, i1, h1, e1, hc1⟩ := once_some l i h 10 hc (by omega)
      cases o with
      | false =>
        refine ⟨p, Ev.pos hp0 ?_, by omega⟩
        rw [e1]
        exact no i1 h1
      | true =>
        obtain ⟨x, i2, h2, e2, _, hc2⟩ := pickInt_some l i1 h1 [-1, 2 ^ b.toNat, wrap64 (2 ^ b.toNat - 1)] hc1 (by simp)
        refine ⟨p.set 0 x, Ev.pos hp0 ?_, by rw [List.length_set]; omega⟩
        rw [e1]
        simp only [Option.bind_some]
        refine Ev.step (f := fun k => (spec_l11Two.f k b).bind fun t153 => ((spec_l11Two.f k b).bind fun t154 => ((spec_l01PickInt.f l i1 h1 (([(-1), t153, wrap64 (t154 - 1)] : List Int))).bind fun bt158 => (if 0 < (p.length : Int) then (some ((p.set (0 : Int).toNat bt158.1), b)) else (none))))) (fun k => ?_) (Ev.bind (l11Two_ev b (by omega)) (Ev.bind (l11Two_ev b (by omega)) ?_))
        · simp only [spec_DrawPack.j1]
          rw [if_pos trivial]
        · rw [e2]
          exact Ev.pos hp0 (Ev.now _)
    · exact ⟨p, Ev.neg hp0 (no i h), by omega⟩
  induction d with
  | zero =>
    intro n p i h hd hn hc hp
    obtain ⟨x, i1, h1, e1, hx0, hx1, hc1⟩ := below_some l i h 12 hc (by omega)
    obtain ⟨q, e, hq⟩ := tail n p i1 h1 hn hc1 hp
    refine ⟨q, Ev.step (fun k => ?_) e, hq⟩
    simp only [spec_DrawPack.l0]
    rw [e1, Option.bind_some, if_neg (by omega)]
  | succ d ih =>
    intro n p i h hd hn hc hp
    obtain ⟨x, i1, h1, e1, hx0, hx1, hc1⟩ := below_some l i h 12 hc (by omega)
    by_cases hlt : (n : Int) < x
    · have h2 := two_b hb0 hb1
      obtain ⟨y, i2, h2', e2, hy0, hy1, hc2⟩ := below_some l i1 h1 (2 ^ b.toNat) hc1 (by omega)
      obtain ⟨q, e, hq⟩ := ih (n + 1) (p ++ [y]) i2 h2' (by omega) (by omega) hc2 (by simp [hp])
      have ln : p.length < 17592186044416 := by omega
      refine ⟨q, Ev.step (f := fun k => (spec_l11Two.f k b).bind fun t143 => ((spec_l01Below.f l i1 h1 t143).bind fun bt144 => (if p.length < 17592186044416 then (spec_DrawPack.l0 k b (p ++ [bt144.1]) ((n + 1 : Nat) : Int) l bt144.2.1 bt144.2.2) else (none)))) (fun k => ?_) (Ev.bind (l11Two_ev b (by omega)) ?_), hq⟩
      · simp only [spec_DrawPack.l0]
        rw [e1, Option.bind_some, if_pos hlt, w64s n (by omega)]
      · rw [e2]
        exact Ev.pos ln e
    · obtain ⟨q, e, hq⟩ := tail n p i1 h1 hn hc1 hp
      refine ⟨q, Ev.step (fun k => ?_) e, hq⟩
      simp only [spec_DrawPack.l0]
      rw [e1, Option.bind_some, if_neg hlt]
theorem drawPack_some (l : List Int) (hl : l.length ≤ 1048576) : ∃ (q : List Int) (b : Int), Ev (fun k => spec_DrawPack.f k l) (q, b) ∧ q.length ≤ 12 ∧ 0 ≤ b ∧ b ≤ 13 := by
  obtain ⟨h, e, hc⟩ := new_some l hl
  obtain ⟨b, i1, h1, e1, hm, hc1⟩ := pickInt_some l 0 h [1, 2, 4, 5, 7, 8, 10, 11, 12, 0, 13] hc (by simp)
  have hb : 0 ≤ b ∧ b ≤ 13 := by
    simp only [List.mem_cons, List.not_mem_nil, or_false] at hm
    omega
  obtain ⟨q, e2, hq⟩ := drawPack_l0 l b hb.1 hb.2 12 0 [] i1 h1 (by omega) (by omega) hc1 rfl
  refine ⟨q, b, ?_, hq, hb⟩
  unfold spec_DrawPack.f
  refine Ev.bind e (Ev.then e1 ?_)
  exact e2
theorem packR_size (l : List Int) (b : Int) (hl : l.length ≤ 12) : (packR l b).1.size ≤ 100 := by
  unfold packR
  split
  · rename_i h
    show (packV b.toNat l).size ≤ 100
    have h1 : b.toNat ≤ 12 := by omega
    have h2 : l.length * b.toNat ≤ 12 * 12 := Nat.mul_le_mul hl h1
    unfold packV
    rw [strOfNums_size, bytesL_length]
    omega
  · show (⟨#[]⟩ : ByteArray).size ≤ 100
    decide
theorem drawUnpack_some (l : List Int) (hl : l.length ≤ 1048576) : ∃ (t : ByteArray) (b n : Int), Ev (fun k => spec_DrawUnpack.f k l) (t, b, n) ∧ t.size ≤ 1000001 := by
  obtain ⟨q, b, e, hq, hb0, hb1⟩ := drawPack_some l hl
  obtain ⟨h, e1, hc⟩ := new_some l hl
  obtain ⟨x, i2, h2, e2, _, _, hc2⟩ := below_some l 0 h 8 hc (by omega)
  have hp := spec_Pack_ev q b (by omega)
  have hsz := packR_size q b hq
  unfold spec_DrawUnpack.f
  by_cases h0 : x = 0
  · obtain ⟨t, i3, h3, e3, ht, hc3⟩ := spoilt_some l i2 h2 (packR q b).1 hc2 (by omega)
    refine ⟨t, b, (q.length : Int), Ev.bind e (Ev.bind e1 (Ev.bind hp (Ev.then e2 ?_))), ht⟩
    exact Ev.pos h0 (Ev.bind e3 (Ev.now _))
  · by_cases h1 : x = 1
    · obtain ⟨y, i3, h3, e3, _, hc3⟩ := pickInt_some l i2 h2 [-1, 1, 1000] hc2 (by simp)
      refine ⟨(packR q b).1, b, wrap64 ((q.length : Int) + y), Ev.bind e (Ev.bind e1 (Ev.bind hp (Ev.then e2 ?_))), by omega⟩
      refine Ev.neg h0 (Ev.pos h1 (Ev.then e3 (Ev.now _)))
    · refine ⟨(packR q b).1, b, (q.length : Int), Ev.bind e (Ev.bind e1 (Ev.bind hp (Ev.then e2 ?_))), by omega⟩
      exact Ev.neg h0 (Ev.neg h1 (Ev.now _))

/-! there and back -/
theorem bnum_packV (b : Nat) (l : List Int) (hf : l.all (fitsB b) = true) : bnum (packV b l) = valB b (natL l) ∧ (packV b l).size = (l.length * b + 7) / 8 := by
  have hlt := valB_lt b (natL l) (fits_nat hf)
  rw [natL_length] at hlt
  have hsz : (packV b l).size = (l.length * b + 7) / 8 := by unfold packV; rw [strOfNums_size, bytesL_length]
  have h256 : valB b (natL l) < 256 ^ ((l.length * b + 7) / 8) := by
    refine Nat.lt_of_lt_of_le hlt ?_
    rw [pow256]
    refine Nat.pow_le_pow_right (by decide) ?_
    rw [Nat.mul_comm b]
    omega
  refine ⟨?_, hsz⟩
  have h1 := strOf_bnum (packV b l)
  have h2 := bnum_lt (packV b l)
  rw [hsz] at h1 h2
  exact strOf_inj h2 h256 h1
theorem unpack_pack (b : Int) (l : List Int) (h1 : 1 ≤ b) (h2 : b ≤ 12) (hl : l.length ≤ 1000) (hf : l.all (fitsB b.toNat) = true) : unpackR (packV b.toNat l) b (l.length : Int) = (l, true) := by
  obtain ⟨hn, hs⟩ := bnum_packV b.toNat l hf
  have hlt := valB_lt b.toNat (natL l) (fits_nat hf)
  rw [natL_length] at hlt
  unfold unpackR
  rw [if_pos ⟨⟨h1, h2⟩, ⟨by omega, by omega⟩, by rw [hs, Int.toNat_natCast]⟩, hn, Int.toNat_natCast, if_pos hlt]
  refine congrArg (·, true) ?_
  apply List.ext_getElem
  · rw [pieces_length]
  · intro i ha hb
    rw [pieces_get, valB_piece b.toNat (natL l) (fits_nat hf) i (by rw [natL_length]; exact hb)]
    simp only [natL, List.getElem_map]
    have h3 := of_decide_eq_true (List.all_eq_true.mp hf l[i] (List.getElem_mem hb))
    omega
theorem pack_unpack (t : ByteArray) (b n : Int) (h : (unpackR t b n).2 = true) : packR (unpackR t b n).1 b = (t, true) := by
  unfold unpackR at h ⊢
  by_cases h1 : (1 ≤ b ∧ b ≤ 12) ∧ (0 ≤ n ∧ n ≤ 1000) ∧ t.size = (n.toNat * b.toNat + 7) / 8
  · rw [if_pos h1] at h ⊢
    by_cases h2 : bnum t < 2 ^ (b.toNat * n.toNat)
    · rw [if_pos h2]
      show packR (pieces b.toNat (bnum t) n.toNat) b = (t, true)
      unfold packR
      rw [if_pos ⟨h1.1, pieces_fit _ _ _⟩]
      refine congrArg (·, true) ?_
      unfold packV
      rw [pieces_length]
      have e : natL (pieces b.toNat (bnum t) n.toNat) = (List.range n.toNat).map fun i => bnum t / 2 ^ (b.toNat * i) % 2 ^ b.toNat := by
        unfold natL pieces
        rw [List.map_map]
        rfl
      rw [e, valB_pieces, Nat.mod_eq_of_lt h2, ← h1.2.2]
      exact strOf_bnum t
    · rw [if_neg h2] at h
      exact absurd h (by decide)
  · rw [if_neg h1] at h
    exact absurd h (by decide)
end Go.Proofs.Ythkbgflbbnjcpaa.Pure
