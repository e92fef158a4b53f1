/- The law on digits: those of a drawn text are of its digest, and of how much is left of each; of two texts one has a lesser digit, or they have the same. -/
import Derived.Test.YtoeagdpddggliaaDoorMZI
import Derived.Test.YtoeagdpddggliaaDoorMJ
import Derived.Test.YtoeagdpddggliaaDoorMJ2
import Derived.Test.YtoeagdpddggliaaDoorPx1
import Derived.Test.YtoeagdpddggliaaDoorPx2
import Derived.Test.YtoeagdpddggliaaDoorPx3
import Derived.Test.YtoeagdpddggliaaDoorPx11
import Derived.Test.YtoeagdpddggliaaDoorPx13
namespace Go.Proofs.YtoeagdpddggliaaDoor.Pure
set_option linter.unusedVariables false
open Go.RowKit Go.Proofs.YtoeagdpddggliaaDoorW.PrintWords Go.Proofs.YtoeagdpddggliaaDoorW.PrintLast Go.Proofs.YtoeagdpddggliaaDoorW.PrintMore Go.Proofs.YtoeagdpddggliaaDoor.P

theorem long_some (n x : Int) (hn : 0 ≤ n ∧ n ≤ 1000) : ∃ t : ByteArray, Ev (fun k => spec_l01Long.f k n x) t ∧ t.size = n.toNat := by
  have key : ∀ d m : Nat, ∀ (ps : List Int), n.toNat - m = d → m ≤ n.toNat → ps.length = n.toNat → ∃ t : ByteArray, Ev (fun k => spec_l01Long.l0 k n x ps (m : Int)) t ∧ t.size = n.toNat := by
    intro d
    induction d with
    | zero =>
      intro m ps hd hm hp
      refine ⟨strOfNums ps, Ev.step (f := fun _ => some (strOfNums ps)) (fun k => ?_) (Ev.now _), by rw [strOfNums_size]; exact hp⟩
      simp only [spec_l01Long.l0]
      rw [if_neg (by omega)]
    | succ d ih =>
      intro m ps hd hm hp
      obtain ⟨t, e, ht⟩ := ih (m + 1) (ps.set m x) (by omega) (by omega) (by simp [hp])
      refine ⟨t, Ev.step (fun k => ?_) e, ht⟩
      simp only [spec_l01Long.l0]
      rw [if_pos (by omega), if_pos (by omega), if_pos (by omega), Int.toNat_natCast, w64s m (by omega)]
  unfold spec_l01Long.f
  obtain ⟨t, e, ht⟩ := key n.toNat 0 (List.replicate n.toNat 0) (by omega) (by omega) (by simp)
  exact ⟨t, Ev.pos hn.1 (Ev.pos (by omega) e), ht⟩
theorem drawText_some (l : List Int) (hl : l.length ≤ 1048576) : ∃ t : ByteArray, t.size ≤ 2000 ∧ Ev (fun k => spec_DrawDigitsOf.f k l) t := by
  obtain ⟨h, e0, c0⟩ := new_some l hl
  obtain ⟨n, i1, h1, e1, nm, c1⟩ := pickInt_some l 0 h [0, 3, 10, 54, 55, 56, 57, 63, 64, 65, 119, 120, 130] c0 (by decide)
  have hn : 0 ≤ n ∧ n ≤ 1000 := by
    simp only [List.mem_cons, List.not_mem_nil, or_false] at nm
    omega
  obtain ⟨q, i2, h2, e2, q0, q1, c2⟩ := below_some l i1 h1 5 c1 (by decide)
  obtain ⟨t, i3, h3, e3, ts, c3⟩ := text_some l i2 h2 q c2 (by omega)
  obtain ⟨v, i4, h4, e4, _, _, c4⟩ := below_some l i3 h3 20 c3 (by decide)
  obtain ⟨u, e5, us⟩ := long_some n (wrap64 (65 + v) % 256) hn
  refine ⟨t ++ u, by rw [ByteArray.size_append]; omega, ?_⟩
  unfold spec_DrawDigitsOf.f
  refine Ev.bind e0 (Ev.bind (a := (t ++ u, i4, h4)) ?_ (Ev.now _))
  show Ev (fun k => spec_l05Text.f k l 0 h) (t ++ u, i4, h4)
  unfold spec_l05Text.f
  exact Ev.then e1 (Ev.then e2 (Ev.bind e3 (Ev.then e4 (Ev.bind e5 (Ev.pos (by show t.size + u.size ≤ 9223372036854775807; omega) (Ev.now _))))))
theorem sameInts_ev (l : List Int) (hl : l.length ≤ 1000) : Ev (fun k => laws_sameInts.f k l l) true := by
  unfold laws_sameInts.f
  refine Ev.pos rfl ?_
  refine Ev.up (g := fun i k => laws_sameInts.l0 k l l (i : Int)) l.length ?_ ?_ 0 (Nat.zero_le _)
  · intro i hi hh
    refine Ev.step (fun k => ?_) hh
    simp only [laws_sameInts.l0]
    rw [if_pos (by omega), if_pos (by omega), if_pos (by omega), if_pos trivial, w64s i (by omega)]
  · exact Ev.step (f := fun _ => some true) (fun k => by simp only [laws_sameInts.l0]; rw [if_neg (by omega)]) (Ev.now _)
def lessB (T U : List Int) : Nat → Bool
  | 0 => false
  | j + 1 => lessB T U j || decide (rd U (j : Int) < rd T (j : Int))
theorem lessB_none (T U : List Int) : ∀ n : Nat, lessB T U n = false → ∀ j, j < n → rd T (j : Int) ≤ rd U (j : Int)
  | 0, _, j, hj => absurd hj (by omega)
  | n + 1, h, j, hj => by
    simp only [lessB, Bool.or_eq_false_iff, decide_eq_false_iff_not] at h
    by_cases hjn : j = n
    · subst hjn; omega
    · exact lessB_none T U n h.1 j (by omega)
theorem lessB_all (T U : List Int) : ∀ n : Nat, (∀ j, j < n → rd T (j : Int) ≤ rd U (j : Int)) → lessB T U n = false
  | 0, _ => rfl
  | n + 1, h => by
    simp only [lessB, Bool.or_eq_false_iff, decide_eq_false_iff_not]
    exact ⟨lessB_all T U n (fun j hj => h j (by omega)), by have := h n (by omega); omega⟩
theorem psum8 (L : List Int) : psum L 8 = 0 + (15 - rd L 0) + (15 - rd L 1) + (15 - rd L 2) + (15 - rd L 3) + (15 - rd L 4) + (15 - rd L 5) + (15 - rd L 6) + (15 - rd L 7) := rfl
theorem less_both (T U : List Int) (hT : rd T 8 * 16 + rd T 9 = psum T 8) (hU : rd U 8 * 16 + rd U 9 = psum U 8) (h : lessB T U 10 = false) : lessB U T 10 = false := by
  have k := lessB_none T U 10 h
  have k0 : rd T 0 ≤ rd U 0 := k 0 (by decide)
  have k1 : rd T 1 ≤ rd U 1 := k 1 (by decide)
  have k2 : rd T 2 ≤ rd U 2 := k 2 (by decide)
  have k3 : rd T 3 ≤ rd U 3 := k 3 (by decide)
  have k4 : rd T 4 ≤ rd U 4 := k 4 (by decide)
  have k5 : rd T 5 ≤ rd U 5 := k 5 (by decide)
  have k6 : rd T 6 ≤ rd U 6 := k 6 (by decide)
  have k7 : rd T 7 ≤ rd U 7 := k 7 (by decide)
  have k8 : rd T 8 ≤ rd U 8 := k 8 (by decide)
  have k9 : rd T 9 ≤ rd U 9 := k 9 (by decide)
  rw [psum8] at hT hU
  refine lessB_all U T 10 fun j hj => ?_
  match j, hj with
  | 0, _ => show rd U 0 ≤ rd T 0; omega
  | 1, _ => show rd U 1 ≤ rd T 1; omega
  | 2, _ => show rd U 2 ≤ rd T 2; omega
  | 3, _ => show rd U 3 ≤ rd T 3; omega
  | 4, _ => show rd U 4 ≤ rd T 4; omega
  | 5, _ => show rd U 5 ≤ rd T 5; omega
  | 6, _ => show rd U 6 ≤ rd T 6; omega
  | 7, _ => show rd U 7 ≤ rd T 7; omega
  | 8, _ => show rd U 8 ≤ rd T 8; omega
  | 9, _ => show rd U 9 ≤ rd T 9; omega
theorem less_eq (T U : List Int) (hT : rd T 8 * 16 + rd T 9 = psum T 8) (hU : rd U 8 * 16 + rd U 9 = psum U 8) : (lessB T U 10 == lessB U T 10) = true := by
  cases h1 : lessB T U 10 with
  | false => rw [less_both T U hT hU h1]; rfl
  | true =>
    cases h2 : lessB U T 10 with
    | false => rw [less_both U T hU hT h2] at h1; cases h1
    | true => rfl
theorem digits_l1 (T U : List Int) (hT1 : T.length = 10) (hU1 : U.length = 10) (hTr : ∀ x ∈ T, 0 ≤ x ∧ x ≤ 15) (hT : rd T 8 * 16 + rd T 9 = psum T 8) (hU : rd U 8 * 16 + rd U 9 = psum U 8) : Ev (fun k => laws_FnDigits.l1 k T (psum T 8) U false false 0) true := by
  refine Ev.up (g := fun j k => laws_FnDigits.l1 k T (psum T 8) U (lessB T U j) (lessB U T j) (j : Int)) 10 ?_ ?_ 0 (Nat.zero_le _)
  · intro j hj hh
    refine Ev.step (fun k => ?_) hh
    simp only [laws_FnDigits.l1]
    have a1 : (j : Int) < 10 := by omega
    have a2 : (0 : Int) ≤ (j : Int) := by omega
    have a3 : (j : Int) < (U.length : Int) := by omega
    have a4 : (j : Int) < (T.length : Int) := by omega
    rw [if_pos a1, w64s j (by omega)]
    simp only [lessB]
    cases h1 : lessB T U j <;> cases h2 : lessB U T j <;> simp [a2, a3, a4]
  · refine Ev.step (f := fun _ => some (lessB T U 10 == lessB U T 10)) (fun k => ?_) (by rw [less_eq T U hT hU]; exact Ev.now _)
    have r8 := hTr (rd T 8) (by rw [show (8 : Int) = ((8 : Nat) : Int) from rfl, rd_get T 8 (by omega)]; exact List.getElem_mem _)
    have r9 := hTr (rd T 9) (by rw [show (9 : Int) = ((9 : Nat) : Int) from rfl, rd_get T 9 (by omega)]; exact List.getElem_mem _)
    simp only [laws_FnDigits.l1]
    rw [if_neg (by omega), if_pos (by omega), if_pos (by omega), w64 (x := rd T 8 * 16) (by omega) (by omega), w64 (by omega) (by omega), if_pos hT]
theorem FnDigits : laws_FnDigits.Pure := by
  intro l _ _ _
  refine Ev.rounds ?_
  unfold laws_FnDigits.f
  by_cases hb : (l.length : Int) > 1048576
  · exact Ev.then (a := true) (by unfold laws_big.f; rw [decide_eq_true hb]) (Ev.pos rfl (Ev.now _))
  refine Ev.then (a := false) (by unfold laws_big.f; rw [decide_eq_false hb]) (Ev.neg (by decide) ?_)
  obtain ⟨t, ts, e1⟩ := drawText_some l (by omega)
  obtain ⟨T, T1, T2, T3, f1, f2⟩ := digits_more t (by omega)
  obtain ⟨U, U1, U2, U3, g1, g2⟩ := digits_more (t ++ (⟨#[120]⟩ : ByteArray)) (by rw [ByteArray.size_append]; show _ + 1 ≤ _; omega)
  refine Ev.bind e1 (Ev.bind f2 (Ev.pos (by omega) (Ev.bind f1 (Ev.bind (sameInts_ev T (by omega)) ?_))))
  refine Ev.step (f := fun k => laws_FnDigits.l0 k t T 0 0) (fun k => by simp only [laws_FnDigits.j0]; rw [if_neg (by decide)]) ?_
  have hp : ∀ j : Nat, j ≤ 8 → 0 ≤ psum T j ∧ psum T j ≤ 15 * j := by
    intro j
    induction j with
    | zero => intro _; simp [psum]
    | succ j ih =>
      intro hj
      have h1 := ih (by omega)
      have h2 := T2 (rd T (j : Int)) (by rw [rd_get T j (by omega)]; exact List.getElem_mem _)
      simp only [psum]
      push_cast
      omega
  refine Ev.up (g := fun j k => laws_FnDigits.l0 k t T (psum T j) (j : Int)) 8 ?_ ?_ 0 (Nat.zero_le _)
  · intro j hj hh
    have h1 := hp j (by omega)
    have h2 := T2 (rd T (j : Int)) (by rw [rd_get T j (by omega)]; exact List.getElem_mem _)
    refine Ev.step (fun k => ?_) hh
    simp only [laws_FnDigits.l0]
    rw [if_pos (by omega), if_pos (by omega), if_pos (by omega), if_neg (by omega), if_neg (by omega), w64s j (by omega), w64 (x := psum T j + 15) (by omega) (by omega), w64 (by omega) (by omega)]
    congr 1
    simp only [psum]
    omega
  · refine Ev.step (f := fun k => (impl_DigitsOf.f k (t ++ (⟨#[120]⟩ : ByteArray))).bind fun u => laws_FnDigits.l1 k T (psum T 8) u false false 0) (fun k => ?_) (Ev.bind g2 (digits_l1 T U T1 U1 T2 T3 U3))
    simp only [laws_FnDigits.l0]
    rw [if_neg (by omega), if_pos (by omega)]
end Go.Proofs.YtoeagdpddggliaaDoor.Pure
