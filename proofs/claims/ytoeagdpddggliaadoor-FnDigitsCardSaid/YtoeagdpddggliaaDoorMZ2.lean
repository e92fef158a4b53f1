/- SHA-256, one block: the rounds. -/
import Derived.Test.YtoeagdpddggliaaDoorMZ1
import Derived.Test.YtoeagdpddggliaaDoorPx5
namespace Go.Proofs.YtoeagdpddggliaaDoor.Pure
open Go.RowKit Go.Proofs.YtoeagdpddggliaaDoorW.PrintWords Go.Proofs.YtoeagdpddggliaaDoorW.PrintLast Go.Proofs.YtoeagdpddggliaaDoorW.PrintMore Go.Proofs.YtoeagdpddggliaaDoor.P Go.Proofs.YtoeagdpddggliaaDoor.Kit
set_option linter.unusedVariables false
set_option linter.unusedSimpArgs false

/-- The words while word i is being made. -/
def partW (s : ByteArray) (i : Nat) (x : Int) : List Int := wordL s i ++ x :: List.replicate (63 - i) 0
theorem partW_rd (s : ByteArray) (i : Nat) (x : Int) : rd (partW s i x) (i : Int) = x := by
  rw [rd_nat, partW, List.getD_eq_getElem?_getD, List.getElem?_append_right (by rw [wordL_len]; omega), wordL_len]
  simp
theorem partW_set (s : ByteArray) (i : Nat) (x y : Int) : (partW s i x).set i y = partW s i y := by
  unfold partW
  rw [List.set_append_right _ _ (by rw [wordL_len]; omega), wordL_len]
  simp
theorem wordsA_step (s : ByteArray) (m i : Nat) (x y : Int) (hm : m / 4 = i) (h : wordsA s m = partW s i x) (hx : 0 ≤ x) (hx2 : x < 16777216) (hy : y = x * 256 + bt s (m : Int)) : wordsA s (m + 1) = partW s i y := by
  have hb := bt_range s (m : Int)
  simp only [wordsA]
  rw [hm, h, partW_rd, partW_set, or_add 8 _ _ (W32.mod _) (by omega) (W32.mod _) (by omega), hy]
  congr 1
  omega
theorem wordsA_four (s : ByteArray) (i : Nat) (hi : i < 16) (h : wordsA s (4 * i) = partW s i 0) : wordsA s (4 * (i + 1)) = wordL s (i + 1) ++ List.replicate (63 - i) 0 := by
  have b0 := bt_range s ((4 * i : Nat) : Int)
  have b1 := bt_range s ((4 * i + 1 : Nat) : Int)
  have b2 := bt_range s ((4 * i + 2 : Nat) : Int)
  have b3 := bt_range s ((4 * i + 3 : Nat) : Int)
  have h1 := wordsA_step s (4 * i) i 0 (bt s ((4 * i : Nat) : Int)) (by omega) h (by omega) (by omega) (by omega)
  have h2 := wordsA_step s (4 * i + 1) i _ (bt s ((4 * i : Nat) : Int) * 256 + bt s ((4 * i + 1 : Nat) : Int)) (by omega) h1 (by omega) (by omega) rfl
  have h3 := wordsA_step s (4 * i + 2) i _ ((bt s ((4 * i : Nat) : Int) * 256 + bt s ((4 * i + 1 : Nat) : Int)) * 256 + bt s ((4 * i + 2 : Nat) : Int)) (by omega) h2 (by omega) (by omega) rfl
  have h4 := wordsA_step s (4 * i + 3) i _ (word s i) (by omega) h3 (by omega) (by omega) (by unfold word; omega)
  rw [show 4 * (i + 1) = 4 * i + 3 + 1 by omega, h4, partW, wordL_succ]
  simp
theorem wordsA_all (s : ByteArray) : ∀ i, i ≤ 16 → wordsA s (4 * i) = wordL s i ++ List.replicate (64 - i) 0
  | 0, _ => rfl
  | i + 1, h => by
    have ih := wordsA_all s i (by omega)
    rw [wordsA_four s i (by omega) (by rw [ih, partW, show 64 - i = (63 - i) + 1 by omega, List.replicate_succ]), show 64 - (i + 1) = 63 - i by omega]
theorem wordNext_w (l : List Int) (t : Nat) : W32 (wordNext l t) := W32.mod _
theorem take_set_snoc (l : List Int) (t : Nat) (v : Int) (h : t < l.length) : (l.set t v).take (t + 1) = l.take t ++ [v] := by
  rw [List.take_add_one, List.take_set_of_le (Nat.le_refl _)]
  simp [h]
theorem wordsB_snoc (s : ByteArray) (j : Nat) (h : j < 48) : (wordsB s (j + 1)).take (16 + (j + 1)) = (wordsB s j).take (16 + j) ++ [wordNext (wordsB s j) (16 + j)] :=
  take_set_snoc _ (16 + j) _ (by rw [wordsB_len]; omega)
theorem wordsB_take (s : ByteArray) : ∀ j, j ≤ 48 → ∀ x ∈ (wordsB s j).take (16 + j), W32 x
  | 0, _ => by
    intro x hx
    have := wordsA_all s 16 (Nat.le_refl _)
    simp only [wordsB] at hx
    rw [show 64 = 4 * 16 from rfl, this, List.take_append_of_le_length (by rw [wordL_len]; omega)] at hx
    exact wordL_w s 16 x (List.mem_of_mem_take hx)
  | j + 1, h => by
    intro x hx
    rw [wordsB_snoc s j (by omega), List.mem_append] at hx
    rcases hx with hx | hx
    · exact wordsB_take s j (by omega) x hx
    · simp at hx; subst hx; exact wordNext_w _ _
theorem rd_take (l : List Int) (t i : Nat) (h : i < t) : rd (l.take t) (i : Int) = rd l (i : Int) := by
  rw [rd_nat, rd_nat]
  simp [List.getElem?_take, h]
theorem wB_w (s : ByteArray) (j i : Nat) (hj : j ≤ 48) (hi : i < 16 + j) : W32 (rd (wordsB s j) (i : Int)) := by
  have hl := wordsB_len s j
  rw [← rd_take _ (16 + j) i hi, rd_get _ _ (by rw [List.length_take, hl]; omega)]
  exact wordsB_take s j hj _ (List.getElem_mem _)
theorem l0_ev (s : ByteArray) (st ks : List Int) (r : List Int) (hst : st.length = 8) (h : Ev (fun k => spec_l05Round.l1 k st ks (impl_wordsOf.v s) st 0) r) : Ev (fun k => spec_l05Round.l0 k st ks (wordL s 16) 16) r := by
  have h0 : wordL s 16 = (wordsB s 0).take 16 := by
    simp only [wordsB]
    rw [show 64 = 4 * 16 from rfl, wordsA_all s 16 (Nat.le_refl _), List.take_append_of_le_length (by rw [wordL_len]; omega), List.take_of_length_le (by rw [wordL_len]; omega)]
  rw [h0]
  refine Ev.up (g := fun j k => spec_l05Round.l0 k st ks ((wordsB s j).take (16 + j)) ((16 + j : Nat) : Int)) 48 ?_ ?_ 0 (Nat.zero_le _)
  · intro j hj hh
    refine Ev.step (fun k => ?_) hh
    have hl : ((wordsB s j).take (16 + j)).length = 16 + j := by rw [List.length_take, wordsB_len]; omega
    have e1 : wrap64 (((16 + j : Nat) : Int) - 2) = ((14 + j : Nat) : Int) := by rw [w64 (by omega) (by omega)]; omega
    have e2 : wrap64 (((16 + j : Nat) : Int) - 7) = ((9 + j : Nat) : Int) := by rw [w64 (by omega) (by omega)]; omega
    have e3 : wrap64 (((16 + j : Nat) : Int) - 15) = ((1 + j : Nat) : Int) := by rw [w64 (by omega) (by omega)]; omega
    have e4 : wrap64 (((16 + j : Nat) : Int) - 16) = ((j : Nat) : Int) := by rw [w64 (by omega) (by omega)]; omega
    have e5 : wrap64 (((16 + j : Nat) : Int) + 1) = ((16 + (j + 1) : Nat) : Int) := by rw [w64 (by omega) (by omega)]; omega
    simp only [spec_l05Round.l0]
    rw [e1, e2, e3, e4, e5, hl, rd_take _ _ _ (by omega), rd_take _ _ _ (by omega), rd_take _ _ _ (by omega), rd_take _ _ _ (by omega)]
    rw [if_pos (by omega), if_pos (by omega), if_pos (by omega), S_w1 _ (wB_w s j _ (by omega) (by omega))]
    simp only [Option.bind_some]
    rw [if_pos (by omega), if_pos (by omega), if_pos (by omega), if_pos (by omega), S_w0 _ (wB_w s j _ (by omega) (by omega))]
    simp only [Option.bind_some]
    rw [if_pos (by omega), if_pos (by omega), if_pos (by omega), wordsB_snoc s j hj]
    congr 2
    unfold wordNext
    rw [show 16 + j - 2 = 14 + j by omega, show 16 + j - 7 = 9 + j by omega, show 16 + j - 15 = 1 + j by omega, show 16 + j - 16 = j by omega]
    simp only [List.append_cancel_left_eq, List.cons.injEq, and_true]
    omega
  · refine Ev.step (fun k => ?_) h
    have hl := wordsB_len s 48
    simp only [spec_l05Round.l0, Option.bind_some]
    rw [if_neg (by omega), if_pos (by simp; omega), List.take_of_length_le (by omega)]
    rfl
theorem wl0 : wrap64 0 = 0 := w64 (by decide) (by decide)
theorem wl1 : wrap64 1 = 1 := w64 (by decide) (by decide)
theorem wl2 : wrap64 2 = 2 := w64 (by decide) (by decide)
theorem wl3 : wrap64 3 = 3 := w64 (by decide) (by decide)
theorem wl4 : wrap64 4 = 4 := w64 (by decide) (by decide)
theorem wl5 : wrap64 5 = 5 := w64 (by decide) (by decide)
theorem wl6 : wrap64 6 = 6 := w64 (by decide) (by decide)
theorem wl7 : wrap64 7 = 7 := w64 (by decide) (by decide)
theorem wl8 : wrap64 8 = 8 := w64 (by decide) (by decide)
theorem l2_seven (k : Nat) (x0 x1 x7 : List Int) (a b c d e f g h t u v : Int) : spec_l05Round.l2 (k + 1 + 1 + 1 + 1 + 1 + 1 + 1 + 1) x0 x1 x7 [a, b, c, d, e, f, g, h] t u v 7 = spec_l05Round.l1 k x0 x1 x7 [(u + v) % 4294967296, a, b, c, (d + u) % 4294967296, e, f, g] (wrap64 (t + 1)) := by
  simp [spec_l05Round.l2, wl0, wl1, wl2, wl3, wl4, wl5, wl6, wl7, wl8, rd]
theorem l3_eight (k : Nat) (a b c d e f g h a' b' c' d' e' f' g' h' : Int) : spec_l05Round.l3 (k + 1 + 1 + 1 + 1 + 1 + 1 + 1 + 1 + 1) [a, b, c, d, e, f, g, h] [a', b', c', d', e', f', g', h'] [] 0 = some [(a + a') % 4294967296, (b + b') % 4294967296, (c + c') % 4294967296, (d + d') % 4294967296, (e + e') % 4294967296, (f + f') % 4294967296, (g + g') % 4294967296, (h + h') % 4294967296] := by
  simp [spec_l05Round.l3, wl0, wl1, wl2, wl3, wl4, wl5, wl6, wl7, wl8, rd]
theorem sums_eight (a b c d e f g h a' b' c' d' e' f' g' h' : Int) : sums [a, b, c, d, e, f, g, h] [a', b', c', d', e', f', g', h'] 8 = [(a' + a) % 4294967296, (b' + b) % 4294967296, (c' + c) % 4294967296, (d' + d) % 4294967296, (e' + e) % 4294967296, (f' + f) % 4294967296, (g' + g) % 4294967296, (h' + h) % 4294967296] := rfl
/-- Eight words. -/
def Eight (l : List Int) : Prop := l.length = 8 ∧ ∀ x ∈ l, W32 x
theorem Eight.cases {l : List Int} (h : Eight l) : ∃ a b c d e f g i, l = [a, b, c, d, e, f, g, i] ∧ W32 a ∧ W32 b ∧ W32 c ∧ W32 d ∧ W32 e ∧ W32 f ∧ W32 g ∧ W32 i := by
  obtain ⟨hl, hw⟩ := h
  match l, hl with
  | [a, b, c, d, e, f, g, i], _ => exact ⟨a, b, c, d, e, f, g, i, rfl, hw _ (by simp), hw _ (by simp), hw _ (by simp), hw _ (by simp), hw _ (by simp), hw _ (by simp), hw _ (by simp), hw _ (by simp)⟩
theorem Eight.mk' {a b c d e f g i : Int} (h1 : W32 a) (h2 : W32 b) (h3 : W32 c) (h4 : W32 d) (h5 : W32 e) (h6 : W32 f) (h7 : W32 g) (h8 : W32 i) : Eight [a, b, c, d, e, f, g, i] := by
  refine ⟨rfl, fun x hx => ?_⟩
  simp only [List.mem_cons, List.not_mem_nil, or_false] at hx
  rcases hx with rfl | rfl | rfl | rfl | rfl | rfl | rfl | rfl <;> assumption
theorem rnd_eight {k w : Int} {l : List Int} (h : Eight l) : Eight (rnd k w l) := by
  obtain ⟨a, b, c, d, e, f, g, i, rfl, h1, h2, h3, h4, h5, h6, h7, h8⟩ := h.cases
  exact Eight.mk' (W32.mod _) h1 h2 h3 (W32.mod _) h5 h6 h7
theorem rounds_eight {ws st : List Int} (h : Eight st) : ∀ t, Eight (rounds ws st t)
  | 0 => h
  | t + 1 => rnd_eight (rounds_eight h t)
theorem sums_eq {st v : List Int} (hst : Eight st) (hv : Eight v) : ∃ k0, ∀ k, k0 ≤ k → spec_l05Round.l3 k st v [] 0 = some (sums st v 8) := by
  obtain ⟨a, b, c, d, e, f, g, i, rfl, _⟩ := hv.cases
  obtain ⟨a', b', c', d', e', f', g', i', rfl, _⟩ := hst.cases
  refine ⟨9, fun k hk => ?_⟩
  obtain ⟨k', rfl⟩ : ∃ k', k = k' + 1 + 1 + 1 + 1 + 1 + 1 + 1 + 1 + 1 := ⟨k - 9, by omega⟩
  rw [l3_eight, sums_eight]
  simp only [Int.add_comm]
theorem l1_exit (ws : List Int) {st v : List Int} (hst : Eight st) (hv : Eight v) : ∃ k0, ∀ k, k0 ≤ k → spec_l05Round.l1 k st roundKeys ws v ((64 : Nat) : Int) = some (sums st v 8) := by
  obtain ⟨k0, h⟩ := sums_eq hst hv
  refine ⟨k0 + 1, fun k hk => ?_⟩
  obtain ⟨k', rfl⟩ : ∃ k', k = k' + 1 := ⟨k - 1, by omega⟩
  simp only [spec_l05Round.l1]
  rw [if_neg (by decide)]
  exact h k' (by omega)
theorem l1_R (ws : List Int) (st : List Int) (hst : Eight st) (hwl : ws.length = 64) (R : Nat → List Int) (h0 : R 0 = st) (hs : ∀ t, R (t + 1) = rnd (rd roundKeys (t : Int)) (rd ws (t : Int)) (R t)) (he : ∀ t, Eight (R t)) : Ev (fun k => spec_l05Round.l1 k st roundKeys ws st 0) (sums st (R 64) 8) := by
  have hkl : roundKeys.length = 64 := rfl
  have key : Ev (fun k => spec_l05Round.l1 k st roundKeys ws (R 0) ((0 : Nat) : Int)) (sums st (R 64) 8) := by
    refine Ev.up (g := fun t k => spec_l05Round.l1 k st roundKeys ws (R t) (t : Int)) 64 ?_ ?_ 0 (Nat.zero_le _)
    · intro t ht hh
      obtain ⟨a, b, c, d, e, f, g, i, hv, h1, h2, h3, h4, h5, h6, h7, h8⟩ := (he t).cases
      obtain ⟨K, hK⟩ := hh
      refine ⟨K + 9, fun k hk => ?_⟩
      obtain ⟨k', rfl⟩ : ∃ k', k = k' + 1 + 1 + 1 + 1 + 1 + 1 + 1 + 1 + 1 := ⟨k - 9, by omega⟩
      have hgo := hK k' (by omega)
      simp only [spec_l05Round.l1]
      rw [hv]
      rw [if_pos (by omega), if_pos (by simp), if_pos (by simp), if_pos (by simp), if_pos (by simp), show rd [a, b, c, d, e, f, g, i] 4 = e from rfl, show rd [a, b, c, d, e, f, g, i] 0 = a from rfl, show rd [a, b, c, d, e, f, g, i] 5 = f from rfl, show rd [a, b, c, d, e, f, g, i] 6 = g from rfl, show rd [a, b, c, d, e, f, g, i] 7 = i from rfl, show rd [a, b, c, d, e, f, g, i] 1 = b from rfl, show rd [a, b, c, d, e, f, g, i] 2 = c from rfl, S_e e h5]
      simp only [Option.bind_some]
      rw [if_pos (by omega), if_pos (by omega), if_pos (by omega), if_pos (by simp), if_pos (by simp), if_pos (by simp), S_a a h1]
      simp only [Option.bind_some]
      rw [l2_seven, w64s t (by omega)]
      rw [← hgo, hs t, hv]
      simp only [rnd]
      rw [not32 e h5, show (4294967295 - e) % 4294967296 = 4294967295 - e by have := h5.1; have := h5.2; omega]
      congr 1
      simp only [List.cons.injEq, and_true, true_and]
      constructor <;> omega
    · exact l1_exit ws hst (he 64)
  rw [h0] at key
  exact key
theorem oneBlock_R (st : List Int) (s : ByteArray) (R : Nat → List Int) (hR : R = rounds (impl_wordsOf.v s) st) : impl_oneBlock.v st s = sums st (R 64) 8 := by
  rw [hR]; rfl
theorem l1_ev (s : ByteArray) (st : List Int) (hst : Eight st) : Ev (fun k => spec_l05Round.l1 k st roundKeys (impl_wordsOf.v s) st 0) (impl_oneBlock.v st s) := by
  obtain ⟨R, hR⟩ : ∃ R, R = rounds (impl_wordsOf.v s) st := ⟨_, rfl⟩
  rw [oneBlock_R st s R hR]
  exact l1_R _ st hst (wordsB_len s 48) R (by rw [hR]; rfl) (fun t => by rw [hR]; rfl) (fun t => by rw [hR]; exact rounds_eight hst t)
/-- The reference's round is the program's. -/
theorem spec_l05Round_ev (s : ByteArray) (st : List Int) (hst : Eight st) (hs : s.size = 64) : Ev (fun k => spec_l05Round.f k st roundKeys s) (impl_oneBlock.v st s) := by
  unfold spec_l05Round.f
  exact Ev.bind (spec_l05Words_ev s 16 (by omega) (by decide)) (l0_ev s st roundKeys _ hst.1 (l1_ev s st hst))
theorem sums_8 {st v : List Int} (hst : Eight st) (hv : Eight v) : Eight (sums st v 8) := by
  obtain ⟨a, b, c, d, e, f, g, i, rfl, _⟩ := hv.cases
  obtain ⟨a', b', c', d', e', f', g', i', rfl, _⟩ := hst.cases
  rw [sums_eight]
  exact Eight.mk' (W32.mod _) (W32.mod _) (W32.mod _) (W32.mod _) (W32.mod _) (W32.mod _) (W32.mod _) (W32.mod _)
theorem oneBlock_eight {st : List Int} {s : ByteArray} (h : Eight st) : Eight (impl_oneBlock.v st s) := sums_8 h (rounds_eight h 64)
end Go.Proofs.YtoeagdpddggliaaDoor.Pure
