/- Drawn polynomials are right ones. -/
import Derived.Test.YthkbgflbbnjcpaaMJ
import Derived.Test.YthkbgflbbnjcpaaMVV
import Derived.Test.YthkbgflbbnjcpaaPx16
import Derived.Test.YthkbgflbbnjcpaaPx17
namespace Go.Proofs.Ythkbgflbbnjcpaa.Pure
open Go.RowKit Go.Proofs.YthkbgflbbnjcpaaW.PrintWords Go.Proofs.YthkbgflbbnjcpaaW.PrintLast Go.Proofs.YthkbgflbbnjcpaaW.PrintMore Go.Proofs.Ythkbgflbbnjcpaa.P

theorem poly_l1 (l : List Int) (d : Nat) : ∀ (n : Nat) (p : List Int) (i h : Int), 6 - n = d → n ≤ 6 → Cur l i → p.length = 256 → (∀ x ∈ p, 0 ≤ x ∧ x ≤ 3328) →
    ∃ (q : List Int) (i' h' : Int), Ev (fun k => spec_l09Poly.l1 k p (n : Int) l i h) (q, i', h') ∧ Cur l i' ∧ polyOk q = true := by
  induction d with
  | zero =>
    intro n p i h hd hn hc hp hx
    obtain ⟨x, i1, h1, e1, hx0, hx1, hc1⟩ := below_some l i h 6 hc (by omega)
    refine ⟨p, i1, h1, Ev.step (f := fun _ => some (p, i1, h1)) (fun k => ?_) (Ev.now _), hc1, polyOk_mk hp hx⟩
    simp only [spec_l09Poly.l1]
    rw [e1, Option.bind_some, if_neg (by omega)]
  | succ d ih =>
    intro n p i h hd hn hc hp hx
    obtain ⟨x, i1, h1, e1, hx0, hx1, hc1⟩ := below_some l i h 6 hc (by omega)
    by_cases hlt : (n : Int) < x
    · obtain ⟨y, i2, h2, e2, hy0, hy1, hc2⟩ := below_some l i1 h1 256 hc1 (by omega)
      obtain ⟨z, i3, h3, e3, hz0, hz1, hc3⟩ := below_some l i2 h2 3329 hc2 (by omega)
      obtain ⟨q, i', h', eq, hq⟩ := ih (n + 1) (p.set y.toNat z) i3 h3 (by omega) (by omega) hc3 (by rw [List.length_set]; exact hp) (by
        intro u hu
        rcases List.mem_or_eq_of_mem_set hu with hu | rfl
        · exact hx u hu
        · omega)
      refine ⟨q, i', h', Ev.step (fun k => ?_) eq, hq⟩
      simp only [spec_l09Poly.l1]
      rw [e1, Option.bind_some, if_pos hlt, e2, Option.bind_some, e3, Option.bind_some, if_pos hy0, if_pos (by omega), w64s n (by omega)]
    · refine ⟨p, i1, h1, Ev.step (f := fun _ => some (p, i1, h1)) (fun k => ?_) (Ev.now _), hc1, polyOk_mk hp hx⟩
      simp only [spec_l09Poly.l1]
      rw [e1, Option.bind_some, if_neg hlt]
theorem poly_l0 (l : List Int) (kind step : Int) (hs : 0 ≤ step ∧ step ≤ 3328) (d : Nat) : ∀ (n : Nat) (p : List Int) (x i h : Int), 256 - n = d → n ≤ 256 → 0 ≤ x ∧ x ≤ 3328 → Cur l i → p.length = n → (∀ x ∈ p, 0 ≤ x ∧ x ≤ 3328) →
    ∃ (q : List Int) (i' h' : Int), Ev (fun k => spec_l09Poly.l0 k p kind x step (n : Int) l i h) (q, i', h') ∧ Cur l i' ∧ polyOk q = true := by
  induction d with
  | zero =>
    intro n p x i h hd hn hx hc hp hpx
    obtain ⟨q, i', h', e, hq⟩ := poly_l1 l 6 0 p i h (by omega) (by omega) hc (by omega) hpx
    refine ⟨q, i', h', Ev.step (fun k => ?_) e, hq⟩
    simp only [spec_l09Poly.l0]
    rw [if_neg (by omega)]
    rfl
  | succ d ih =>
    intro n p x i h hd hn hx hc hp hpx
    have more : ∀ v : Int, 0 ≤ v ∧ v ≤ 3328 → ∀ u ∈ p ++ [v], 0 ≤ u ∧ u ≤ 3328 := by
      intro v hv u hu
      rcases List.mem_append.mp hu with hu | hu
      · exact hpx u hu
      · rw [List.mem_singleton] at hu; subst hu; exact hv
    by_cases h0 : kind = 0
    · obtain ⟨q, i', h', e, hq⟩ := ih (n + 1) (p ++ [0]) x i h (by omega) (by omega) hx hc (by simp [hp]) (more 0 (by omega))
      refine ⟨q, i', h', Ev.step (fun k => ?_) e, hq⟩
      simp only [spec_l09Poly.l0]
      rw [if_pos (by omega), if_pos h0, if_pos (by omega), w64s n (by omega)]
    · by_cases h1 : kind = 1
      · obtain ⟨q, i', h', e, hq⟩ := ih (n + 1) (p ++ [3328]) x i h (by omega) (by omega) hx hc (by simp [hp]) (more 3328 (by omega))
        refine ⟨q, i', h', Ev.step (fun k => ?_) e, hq⟩
        simp only [spec_l09Poly.l0]
        rw [if_pos (by omega), if_neg h0, if_pos h1, if_pos (by omega), w64s n (by omega)]
      · have ht : 0 ≤ Int.tmod (wrap64 ((wrap64 (x * 17)) + step)) 3329 ∧ Int.tmod (wrap64 ((wrap64 (x * 17)) + step)) 3329 ≤ 3328 := by
          rw [w64 (x := x * 17) (by omega) (by omega), w64 (x := x * 17 + step) (by omega) (by omega)]
          have := tmod_range (x := x * 17 + step) (n := 3329) (by omega) (by omega)
          omega
        obtain ⟨q, i', h', e, hq⟩ := ih (n + 1) (p ++ [Int.tmod (wrap64 ((wrap64 (x * 17)) + step)) 3329]) _ i h (by omega) (by omega) ht hc (by simp [hp]) (more _ ht)
        refine ⟨q, i', h', Ev.step (fun k => ?_) e, hq⟩
        simp only [spec_l09Poly.l0]
        rw [if_pos (by omega), if_neg h0, if_neg h1, if_pos (by omega), w64s n (by omega)]
theorem poly_some (l : List Int) (i h : Int) (hc : Cur l i) : ∃ (q : List Int) (i' h' : Int), Ev (fun k => spec_l09Poly.f k l i h) (q, i', h') ∧ Cur l i' ∧ polyOk q = true := by
  obtain ⟨a, i1, h1, e1, _, _, hc1⟩ := below_some l i h 4 hc (by omega)
  obtain ⟨b, i2, h2, e2, hb0, hb1, hc2⟩ := below_some l i1 h1 3329 hc1 (by omega)
  obtain ⟨c, i3, h3, e3, hd0, hd1, hc3⟩ := below_some l i2 h2 3328 hc2 (by omega)
  have ew : wrap64 (1 + c) = 1 + c := w64 (by omega) (by omega)
  obtain ⟨q, i', h', e, hq⟩ := poly_l0 l a (1 + c) (by omega) 256 0 [] b i3 h3 (by omega) (by omega) (by omega) hc3 rfl (fun x hx => absurd hx (by simp))
  refine ⟨q, i', h', ?_, hq⟩
  unfold spec_l09Poly.f
  refine Ev.then e1 (Ev.then e2 (Ev.then e3 ?_))
  simp only [ew]
  exact e
/-- Three drawn polynomials. -/
theorem polys_some (l : List Int) (hl : l.length ≤ 1048576) : ∃ a b c : Nat → Int, Ev (fun k => spec_DrawPolys.f k l) (vec a, vec b, vec c) ∧ (∀ i, 0 ≤ a i ∧ a i ≤ 3328) ∧ (∀ i, 0 ≤ b i ∧ b i ≤ 3328) ∧ ∀ i, 0 ≤ c i ∧ c i ≤ 3328 := by
  obtain ⟨h, e, hc⟩ := new_some l hl
  obtain ⟨p, i1, h1, e1, hc1, o1⟩ := poly_some l 0 h hc
  obtain ⟨q, i2, h2, e2, hc2, o2⟩ := poly_some l i1 h1 hc1
  obtain ⟨r, i3, h3, e3, hc3, o3⟩ := poly_some l i2 h2 hc2
  obtain ⟨a, rfl, ha⟩ := poly_vec' o1
  obtain ⟨b, rfl, hb⟩ := poly_vec' o2
  obtain ⟨c, rfl, hc⟩ := poly_vec' o3
  refine ⟨a, b, c, ?_, ha, hb, hc⟩
  unfold spec_DrawPolys.f
  exact Ev.bind e (Ev.bind e1 (Ev.bind e2 (Ev.bind e3 (Ev.now _))))
end Go.Proofs.Ythkbgflbbnjcpaa.Pure
