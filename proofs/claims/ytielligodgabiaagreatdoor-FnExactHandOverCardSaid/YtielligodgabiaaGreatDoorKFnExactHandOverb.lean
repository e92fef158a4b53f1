/- Plain laws that the law FnExactHandOver rests on. -/
import Derived.Test.YtielligodgabiaaGreatDoorPx0
import Derived.Test.YtielligodgabiaaGreatDoorV0
import Derived.Test.YtielligodgabiaaGreatDoorHB2
import Derived.Test.YtielligodgabiaaGreatDoorHB3
import Derived.Laws.BitsAllLaws
import Derived.Laws.BitsLemmas
import Derived.Test.YtielligodgabiaaGreatDoorHB4
import Derived.Test.YtielligodgabiaaGreatDoorHB5
import Derived.Test.YtielligodgabiaaGreatDoorHB6
import Derived.Test.YtielligodgabiaaGreatDoorHA2
import Derived.Test.YtielligodgabiaaGreatDoorHA3
import Derived.Test.YtielligodgabiaaGreatDoorHA4
import Derived.Test.YtielligodgabiaaGreatDoorHA5
import Derived.Test.YtielligodgabiaaGreatDoorMW3
import Derived.Test.YtielligodgabiaaGreatDoorPx1
import Derived.Test.YtielligodgabiaaGreatDoorPx2
import Derived.Test.YtielligodgabiaaGreatDoorPx3
import Derived.Test.YtielligodgabiaaGreatDoorPx4
import Derived.Test.YtielligodgabiaaGreatDoorPx5
import Derived.Test.YtielligodgabiaaGreatDoorPx6
import Derived.Test.YtielligodgabiaaGreatDoorPx7
import Derived.Test.YtielligodgabiaaGreatDoorPx8
import Derived.Test.YtielligodgabiaaGreatDoorPx9
import Derived.Test.YtielligodgabiaaGreatDoorPx10
import Derived.Test.YtielligodgabiaaGreatDoorPx11
import Derived.Test.YtielligodgabiaaGreatDoorPx12
import Derived.Test.YtielligodgabiaaGreatDoorPx13
import Derived.Test.YtielligodgabiaaGreatDoorPx14
import Derived.Test.YtielligodgabiaaGreatDoorHB2
import Derived.Test.YtielligodgabiaaGreatDoorHB3
import Derived.Test.YtielligodgabiaaGreatDoorHB1
import Derived.Test.YtielligodgabiaaGreatDoorHB5
import Derived.Test.YtielligodgabiaaGreatDoorHB4
import Derived.Test.YtielligodgabiaaGreatDoorHB6
import Derived.Test.YtielligodgabiaaGreatDoorHA2
import Derived.Test.YtielligodgabiaaGreatDoorHA3
import Derived.Test.YtielligodgabiaaGreatDoorHA1
import Derived.Test.YtielligodgabiaaGreatDoorHA4
import Derived.Test.YtielligodgabiaaGreatDoorHA5
import Derived.Test.YtielligodgabiaaGreatDoorKFnExactHandOver
namespace Go.Proofs.YtielligodgabiaaGreatDoor.Pure
open Go.RowKit YtielligodgabiaaGreatDoorW.PrintWords YtielligodgabiaaGreatDoorW.PrintLast YtielligodgabiaaGreatDoorW.PrintMore YtielligodgabiaaGreatDoor.P YtielligodgabiaaGreatDoor.Kit
set_option linter.unusedVariables false
set_option linter.unusedSimpArgs false

/-- The words while gy i is being made. -/
def iy (s : ByteArray) (i : Nat) (x : Int) : List Int := fT s i ++ x :: List.replicate (63 - i) 0
theorem pB (s : ByteArray) (i : Nat) (x : Int) : rd (iy s i x) (i : Int) = x := by
  rw [jq, iy, List.getD_eq_getElem?_getD, List.getElem?_append_right (by rw [eX]; omega), eX]
  simp
theorem o9 (s : ByteArray) (i : Nat) (x y : Int) : (iy s i x).set i y = iy s i y := by
  unfold iy
  rw [List.set_append_right _ _ (by rw [eX]; omega), eX]
  simp
theorem ga (s : ByteArray) (m i : Nat) (x y : Int) (hm : m / 4 = i) (h : eC s m = iy s i x) (hx : 0 ≤ x) (hx2 : x < 16777216) (hy : y = x * 256 + bt s (m : Int)) : eC s (m + 1) = iy s i y := by
  have hb := dl s (m : Int)
  simp only [eC]
  rw [hm, h, pB, o9, pF 8 _ _ (W32.mod _) (by omega) (W32.mod _) (by omega), hy]
  congr 1
  omega
theorem ni (s : ByteArray) (i : Nat) (hi : i < 16) (h : eC s (4 * i) = iy s i 0) : eC s (4 * (i + 1)) = fT s (i + 1) ++ List.replicate (63 - i) 0 := by
  have b0 := dl s ((4 * i : Nat) : Int)
  have b1 := dl s ((4 * i + 1 : Nat) : Int)
  have b2 := dl s ((4 * i + 2 : Nat) : Int)
  have b3 := dl s ((4 * i + 3 : Nat) : Int)
  have h1 := ga s (4 * i) i 0 (bt s ((4 * i : Nat) : Int)) (by omega) h (by omega) (by omega) (by omega)
  have h2 := ga s (4 * i + 1) i _ (bt s ((4 * i : Nat) : Int) * 256 + bt s ((4 * i + 1 : Nat) : Int)) (by omega) h1 (by omega) (by omega) rfl
  have h3 := ga s (4 * i + 2) i _ ((bt s ((4 * i : Nat) : Int) * 256 + bt s ((4 * i + 1 : Nat) : Int)) * 256 + bt s ((4 * i + 2 : Nat) : Int)) (by omega) h2 (by omega) (by omega) rfl
  have h4 := ga s (4 * i + 3) i _ (gy s i) (by omega) h3 (by omega) (by omega) (by unfold gy; omega)
  rw [show 4 * (i + 1) = 4 * i + 3 + 1 by omega, h4, iy, kV]
  simp
theorem iS (s : ByteArray) : ∀ i, i ≤ 16 → eC s (4 * i) = fT s i ++ List.replicate (64 - i) 0
  | 0, _ => rfl
  | i + 1, h => by
    have ih := iS s i (by omega)
    rw [ni s i (by omega) (by rw [ih, iy, show 64 - i = (63 - i) + 1 by omega, List.replicate_succ]), show 64 - (i + 1) = 63 - i by omega]
theorem nQ (l : List Int) (t : Nat) : W32 (hD l t) := W32.mod _
theorem lL (l : List Int) (t : Nat) (v : Int) (h : t < l.length) : (l.set t v).take (t + 1) = l.take t ++ [v] := by
  rw [List.take_add_one, List.take_set_of_le (wa _)]
  simp [h]
theorem jS (s : ByteArray) (j : Nat) (h : j < 48) : (d3 s (j + 1)).take (16 + (j + 1)) = (d3 s j).take (16 + j) ++ [hD (d3 s j) (16 + j)] :=
  lL _ (16 + j) _ (by rw [dA]; omega)
theorem jR (s : ByteArray) : ∀ j, j ≤ 48 → ∀ x ∈ (d3 s j).take (16 + j), W32 x
  | 0, _ => by
    intro x hx
    have := iS s 16 (wa _)
    simp only [d3] at hx
    rw [show 64 = 4 * 16 from rfl, this, List.take_append_of_le_length (by rw [eX]; omega)] at hx
    exact qr s 16 x (List.mem_of_mem_take hx)
  | j + 1, h => by
    intro x hx
    rw [jS s j (by omega), List.mem_append] at hx
    rcases hx with hx | hx
    · exact jR s j (by omega) x hx
    · simp at hx; subst hx; exact nQ _ _
theorem jj (l : List Int) (t i : Nat) (h : i < t) : rd (l.take t) (i : Int) = rd l (i : Int) := by
  rw [jq, jq]
  simp [List.getElem?_take, h]
theorem rV (s : ByteArray) (j i : Nat) (hj : j ≤ 48) (hi : i < 16 + j) : W32 (rd (d3 s j) (i : Int)) := by
  have hl := dA s j
  rw [← jj _ (16 + j) i hi, de _ _ (by rw [List.length_take, hl]; omega)]
  exact jR s j hj _ (List.getElem_mem _)
theorem rQ (s : ByteArray) (st ks : List Int) (r : List Int) (hst : st.length = 8) (h : Ev (fun k => ag.l1 k st ks (bP.v s) st 0) r) : Ev (fun k => ag.l0 k st ks (fT s 16) 16) r := by
  have h0 : fT s 16 = (d3 s 0).take 16 := by
    simp only [d3]
    rw [show 64 = 4 * 16 from rfl, iS s 16 (wa _), List.take_append_of_le_length (by rw [eX]; omega), List.take_of_length_le (by rw [eX]; omega)]
  rw [h0]
  refine Ev.up (g := fun j k => ag.l0 k st ks ((d3 s j).take (16 + j)) ((16 + j : Nat) : Int)) 48 ?_ ?_ 0 (Nat.zero_le _)
  · intro j hj hh
    refine Ev.step (fun k => ?_) hh
    have hl : ((d3 s j).take (16 + j)).length = 16 + j := by rw [List.length_take, dA]; omega
    have e1 : wrap64 (((16 + j : Nat) : Int) - 2) = ((14 + j : Nat) : Int) := by rw [w64 (by omega) (by omega)]; omega
    have e2 : wrap64 (((16 + j : Nat) : Int) - 7) = ((9 + j : Nat) : Int) := by rw [w64 (by omega) (by omega)]; omega
    have e3 : wrap64 (((16 + j : Nat) : Int) - 15) = ((1 + j : Nat) : Int) := by rw [w64 (by omega) (by omega)]; omega
    have e4 : wrap64 (((16 + j : Nat) : Int) - 16) = ((j : Nat) : Int) := by rw [w64 (by omega) (by omega)]; omega
    have e5 : wrap64 (((16 + j : Nat) : Int) + 1) = ((16 + (j + 1) : Nat) : Int) := by rw [w64 (by omega) (by omega)]; omega
    simp only [ag.l0]
    rw [e1, e2, e3, e4, e5, hl, jj _ _ _ (by omega), jj _ _ _ (by omega), jj _ _ _ (by omega), jj _ _ _ (by omega)]
    rw [za (by omega), za (by omega), za (by omega), sd _ (rV s j _ (by omega) (by omega))]
    simp only [Option.bind_some]
    rw [za (by omega), za (by omega), za (by omega), za (by omega), sg _ (rV s j _ (by omega) (by omega))]
    simp only [Option.bind_some]
    rw [za (by omega), za (by omega), za (by omega), jS s j hj]
    congr 2
    unfold hD
    rw [show 16 + j - 2 = 14 + j by omega, show 16 + j - 7 = 9 + j by omega, show 16 + j - 15 = 1 + j by omega, show 16 + j - 16 = j by omega]
    simp only [List.append_cancel_left_eq, List.cons.injEq, and_true]
    omega
  · refine Ev.step (fun k => ?_) h
    have hl := dA s 48
    simp only [ag.l0, Option.bind_some]
    rw [Aa (by omega), za (by simp; omega), List.take_of_length_le (by omega)]
    rfl
theorem wl0 : wrap64 0 = 0 := w64 (by decide) (by decide)
theorem wl1 : wrap64 1 = 1 := w64 (by decide) (by decide)
theorem wl2 : wrap64 2 = 2 := w64 (by decide) (by decide)
theorem wl3 : wrap64 3 = 3 := w64 (by decide) (by decide)
theorem wl4 : wrap64 4 = 4 := w64 (by decide) (by decide)
theorem wl5 : wrap64 5 = 5 := w64 (by decide) (by decide)
theorem wl6 : wrap64 6 = 6 := w64 (by decide) (by decide)
theorem wl7 : wrap64 7 = 7 := w64 (by decide) (by decide)
theorem wl8 : wrap64 8 = 8 := w64 (by decide) (by decide)
theorem pu (k : Nat) (x0 x1 x7 : List Int) (a b c d e f g h t u v : Int) : ag.l2 (k + 1 + 1 + 1 + 1 + 1 + 1 + 1 + 1) x0 x1 x7 [a, b, c, d, e, f, g, h] t u v 7 = ag.l1 k x0 x1 x7 [(u + v) % 4294967296, a, b, c, (d + u) % 4294967296, e, f, g] (wrap64 (t + 1)) := by
  simp [ag.l2, wl0, wl1, wl2, wl3, wl4, wl5, wl6, wl7, wl8, rd]
theorem pp (k : Nat) (a b c d e f g h a' b' c' d' e' f' g' h' : Int) : ag.l3 (k + 1 + 1 + 1 + 1 + 1 + 1 + 1 + 1 + 1) [a, b, c, d, e, f, g, h] [a', b', c', d', e', f', g', h'] [] 0 = some [(a + a') % 4294967296, (b + b') % 4294967296, (c + c') % 4294967296, (d + d') % 4294967296, (e + e') % 4294967296, (f + f') % 4294967296, (g + g') % 4294967296, (h + h') % 4294967296] := by
  simp [ag.l3, wl0, wl1, wl2, wl3, wl4, wl5, wl6, wl7, wl8, rd]
theorem lg (a b c d e f g h a' b' c' d' e' f' g' h' : Int) : gR [a, b, c, d, e, f, g, h] [a', b', c', d', e', f', g', h'] 8 = [(a' + a) % 4294967296, (b' + b) % 4294967296, (c' + c) % 4294967296, (d' + d) % 4294967296, (e' + e) % 4294967296, (f' + f) % 4294967296, (g' + g) % 4294967296, (h' + h) % 4294967296] := rfl
/-- dE words. -/
def dE (l : List Int) : Prop := l.length = 8 ∧ ∀ x ∈ l, W32 x
theorem dE.cases {l : List Int} (h : dE l) : ∃ a b c d e f g i, l = [a, b, c, d, e, f, g, i] ∧ W32 a ∧ W32 b ∧ W32 c ∧ W32 d ∧ W32 e ∧ W32 f ∧ W32 g ∧ W32 i := by
  obtain ⟨hl, hw⟩ := h
  match l, hl with
  | [a, b, c, d, e, f, g, i], _ => exact ⟨a, b, c, d, e, f, g, i, rfl, hw _ (by simp), hw _ (by simp), hw _ (by simp), hw _ (by simp), hw _ (by simp), hw _ (by simp), hw _ (by simp), hw _ (by simp)⟩
theorem dE.mk' {a b c d e f g i : Int} (h1 : W32 a) (h2 : W32 b) (h3 : W32 c) (h4 : W32 d) (h5 : W32 e) (h6 : W32 f) (h7 : W32 g) (h8 : W32 i) : dE [a, b, c, d, e, f, g, i] := by
  refine ⟨rfl, fun x hx => ?_⟩
  simp only [List.mem_cons, List.not_mem_nil, or_false] at hx
  rcases hx with rfl | rfl | rfl | rfl | rfl | rfl | rfl | rfl <;> assumption
theorem pc {k w : Int} {l : List Int} (h : dE l) : dE (rnd k w l) := by
  obtain ⟨a, b, c, d, e, f, g, i, rfl, h1, h2, h3, h4, h5, h6, h7, h8⟩ := h.cases
  exact dE.mk' (W32.mod _) h1 h2 h3 (W32.mod _) h5 h6 h7
theorem gC {ws st : List Int} (h : dE st) : ∀ t, dE (rounds ws st t)
  | 0 => h
  | t + 1 => pc (gC h t)
theorem qt {st v : List Int} (hst : dE st) (hv : dE v) : ∃ k0, ∀ k, k0 ≤ k → ag.l3 k st v [] 0 = some (gR st v 8) := by
  obtain ⟨a, b, c, d, e, f, g, i, rfl, _⟩ := hv.cases
  obtain ⟨a', b', c', d', e', f', g', i', rfl, _⟩ := hst.cases
  refine ⟨9, fun k hk => ?_⟩
  obtain ⟨k', rfl⟩ : ∃ k', k = k' + 1 + 1 + 1 + 1 + 1 + 1 + 1 + 1 + 1 := ⟨k - 9, by omega⟩
  rw [pp, lg]
  simp only [Int.add_comm]
theorem qK (ws : List Int) {st v : List Int} (hst : dE st) (hv : dE v) : ∃ k0, ∀ k, k0 ≤ k → ag.l1 k st roundKeys ws v ((64 : Nat) : Int) = some (gR st v 8) := by
  obtain ⟨k0, h⟩ := qt hst hv
  refine ⟨k0 + 1, fun k hk => ?_⟩
  obtain ⟨k', rfl⟩ : ∃ k', k = k' + 1 := ⟨k - 1, by omega⟩
  simp only [ag.l1]
  rw [Aa (by decide)]
  exact h k' (by omega)
theorem sb (ws : List Int) (st : List Int) (hst : dE st) (hwl : ws.length = 64) (R : Nat → List Int) (h0 : R 0 = st) (hs : ∀ t, R (t + 1) = rnd (rd roundKeys (t : Int)) (rd ws (t : Int)) (R t)) (he : ∀ t, dE (R t)) : Ev (fun k => ag.l1 k st roundKeys ws st 0) (gR st (R 64) 8) := by
  have hkl : roundKeys.length = 64 := rfl
  have key : Ev (fun k => ag.l1 k st roundKeys ws (R 0) ((0 : Nat) : Int)) (gR st (R 64) 8) := by
    refine Ev.up (g := fun t k => ag.l1 k st roundKeys ws (R t) (t : Int)) 64 ?_ ?_ 0 (Nat.zero_le _)
    · intro t ht hh
      obtain ⟨a, b, c, d, e, f, g, i, hv, h1, h2, h3, h4, h5, h6, h7, h8⟩ := (he t).cases
      obtain ⟨K, hK⟩ := hh
      refine ⟨K + 9, fun k hk => ?_⟩
      obtain ⟨k', rfl⟩ : ∃ k', k = k' + 1 + 1 + 1 + 1 + 1 + 1 + 1 + 1 + 1 := ⟨k - 9, by omega⟩
      have hgo := hK k' (by omega)
      simp only [ag.l1]
      rw [hv]
      rw [za (by omega), za (by simp), za (by simp), za (by simp), za (by simp), show rd [a, b, c, d, e, f, g, i] 4 = e from rfl, show rd [a, b, c, d, e, f, g, i] 0 = a from rfl, show rd [a, b, c, d, e, f, g, i] 5 = f from rfl, show rd [a, b, c, d, e, f, g, i] 6 = g from rfl, show rd [a, b, c, d, e, f, g, i] 7 = i from rfl, show rd [a, b, c, d, e, f, g, i] 1 = b from rfl, show rd [a, b, c, d, e, f, g, i] 2 = c from rfl, S_e e h5]
      simp only [Option.bind_some]
      rw [za (by omega), za (by omega), za (by omega), za (by simp), za (by simp), za (by simp), S_a a h1]
      simp only [Option.bind_some]
      rw [pu, dm t (by omega)]
      rw [← hgo, hs t, hv]
      simp only [rnd]
      rw [r6 e h5, show (4294967295 - e) % 4294967296 = 4294967295 - e by have := h5.1; have := h5.2; omega]
      congr 1
      simp only [List.cons.injEq, and_true, true_and]
      constructor <;> omega
    · exact qK ws hst (he 64)
  rw [h0] at key
  exact key
theorem n0 (st : List Int) (s : ByteArray) (R : Nat → List Int) (hR : R = rounds (bP.v s) st) : cg.v st s = gR st (R 64) 8 := by
  rw [hR]; rfl
theorem rR (s : ByteArray) (st : List Int) (hst : dE st) : Ev (fun k => ag.l1 k st roundKeys (bP.v s) st 0) (cg.v st s) := by
  obtain ⟨R, hR⟩ : ∃ R, R = rounds (bP.v s) st := ⟨_, rfl⟩
  rw [n0 st s R hR]
  exact sb _ st hst (dA s 48) R (by rw [hR]; rfl) (fun t => by rw [hR]; rfl) (fun t => by rw [hR]; exact gC hst t)
/-- The reference's round is the program's. -/
theorem gB (s : ByteArray) (st : List Int) (hst : dE st) (hs : s.size = 64) : Ev (fun k => ag.f k st roundKeys s) (cg.v st s) := by
  unfold ag.f
  exact Ev.bind (gp s 16 (by omega) (by decide)) (rQ s st roundKeys _ hst.1 (rR s st hst))
theorem rH {st v : List Int} (hst : dE st) (hv : dE v) : dE (gR st v 8) := by
  obtain ⟨a, b, c, d, e, f, g, i, rfl, _⟩ := hv.cases
  obtain ⟨a', b', c', d', e', f', g', i', rfl, _⟩ := hst.cases
  rw [lg]
  exact dE.mk' (W32.mod _) (W32.mod _) (W32.mod _) (W32.mod _) (W32.mod _) (W32.mod _) (W32.mod _) (W32.mod _)
theorem kZ {st : List Int} {s : ByteArray} (h : dE st) : dE (cg.v st s) := rH h (gC h 64)
theorem gm (a b : List Int) : strOfNums a ++ strOfNums b = strOfNums (a ++ b) := by
  apply eU
  simp [strOfNums, ByteArray.data_append]
theorem lH (xs : List Int) (a b : Nat) : (strOfNums xs).extract a b = strOfNums ((xs.drop a).take (b - a)) := by
  apply eU
  rw [ByteArray.data_extract]
  simp [strOfNums, List.map_drop, List.map_take]
theorem o5 (s : ByteArray) : (⟨#[]⟩ : ByteArray) ++ s = s := by
  apply eU
  simp [ByteArray.data_append]
theorem pV (xs : List Int) (j : Nat) (hj : j < xs.length) (h : 0 ≤ xs[j] ∧ xs[j] ≤ 255) : bt (strOfNums xs) (j : Int) = xs[j] := by
  have hs : j < (strOfNums xs).size := by rw [strOfNums_size]; exact hj
  rw [← cB (strOfNums xs) (j : Int) (by simpa using hs)]
  simp only [Int.toNat_natCast]
  rw [im xs j hs, UInt8.toNat_ofNat']
  omega
def dx (x : Int) : List Int := [(x / 16777216) % 256, (x / 65536) % 256, (x / 256) % 256, x % 256]
def dk (l : List Int) : List Int := l.flatMap dx
theorem iQ (l : List Int) : (dk l).length = 4 * l.length := by
  induction l with
  | nil => rfl
  | cons x l ih => simp only [dk, List.flatMap_cons, List.length_append, List.length_cons] at ih ⊢; rw [ih]; simp [dx]; omega
theorem jE (l : List Int) (i : Nat) (h : i < l.length) : dk (l.take (i + 1)) = dk (l.take i) ++ dx l[i] := by
  show (l.take (i + 1)).flatMap dx = (l.take i).flatMap dx ++ dx l[i]
  rw [← fH l i h, List.flatMap_append, List.flatMap_singleton]
theorem fq (l : List Int) (hl : l.length ≤ 1000000) (hw : ∀ x ∈ l, W32 x) : Ev (fun k => bd.f k l) (strOfNums (dk l)) := by
  refine Ev.up (g := fun i k => bd.l0 k l (dk (l.take i)) (i : Int)) l.length ?_ ?_ 0 (Nat.zero_le _)
  · intro i hi hh
    refine Ev.step (fun k => ?_) hh
    have hx := hw l[i] (List.getElem_mem hi)
    simp only [bd.l0, Option.bind_some]
    rw [za (by omega), za (by omega), za (by rw [iQ, List.length_take]; simp; omega), dm i (by omega), jE l i hi, de l i hi]
    congr 2
    unfold dx
    rw [Int.tdiv_eq_ediv_of_nonneg hx.1, Int.tdiv_eq_ediv_of_nonneg hx.1, Int.tdiv_eq_ediv_of_nonneg hx.1, Int.tmod_eq_emod_of_nonneg hx.1]
    have h1 := hx.1
    have h2 := hx.2
    generalize l[i] = x at h1 h2 ⊢
    simp only [List.cons.injEq, and_true]
    refine ⟨by omega, by omega, by omega, by omega⟩
  · refine Ev.step (f := fun _ => some (strOfNums (dk l))) (fun k => ?_) (Ev.now _)
    simp only [bd.l0]
    rw [Aa (by omega), List.take_length]
theorem iG (l : List Int) (hl : l.length = 8) : ∀ n, n ≤ 8 → bJ.cat l n = some (strOfNums (dk (l.take n)))
  | 0, _ => rfl
  | n + 1, h => by
    simp only [bJ.cat]
    rw [iG l hl n (by omega)]
    simp only [Option.bind_some]
    show (some (strOfNums (dx (rd l (n : Int))))).bind _ = _
    simp only [Option.bind_some]
    rw [za (by rw [strOfNums_size, strOfNums_size, iQ, List.length_take]; simp [dx]; omega), de l n (by omega), gm, jE l n (by omega)]
theorem mL (l : List Int) (hl : l.length = 8) : bJ.f l = some (strOfNums (dk l)) := by
  unfold bJ.f
  rw [iG l hl 8 (wa _), List.take_of_length_le (by omega)]
theorem nw (x : Int) : ∀ y ∈ dx x, 0 ≤ y ∧ y ≤ 255 := by
  intro y hy
  simp only [dx, List.mem_cons, List.not_mem_nil, or_false] at hy
  rcases hy with rfl | rfl | rfl | rfl <;> omega
theorem ms (l : List Int) : ∀ y ∈ dk l, 0 ≤ y ∧ y ≤ 255 := by
  intro y hy
  obtain ⟨x, _, hx⟩ := List.mem_flatMap.mp hy
  exact nw x y hx
theorem nu {l : List Int} (h : dE l) : fT (strOfNums (dk l)) 8 = l := by
  obtain ⟨a, b, c, d, e, f, g, i, rfl, h1, h2, h3, h4, h5, h6, h7, h8⟩ := h.cases
  have hb : ∀ (j : Nat) (hj : j < (dk [a, b, c, d, e, f, g, i]).length), bt (strOfNums (dk [a, b, c, d, e, f, g, i])) (j : Int) = (dk [a, b, c, d, e, f, g, i])[j] :=
    fun j hj => pV _ j hj (ms _ _ (List.getElem_mem hj))
  have hw : ∀ (t : Nat) (x : Int), W32 x → (∀ q, q < 4 → bt (strOfNums (dk [a, b, c, d, e, f, g, i])) ((4 * t + q : Nat) : Int) = (dx x).getD q 0) → gy (strOfNums (dk [a, b, c, d, e, f, g, i])) t = x := by
    intro t x hx hq
    unfold gy
    have q0 := hq 0 (by decide)
    have q1 := hq 1 (by decide)
    have q2 := hq 2 (by decide)
    have q3 := hq 3 (by decide)
    simp only [Nat.add_zero] at q0
    rw [q0, q1, q2, q3]
    simp only [dx, List.getD_cons_zero, List.getD_cons_succ]
    have := hx.1
    have := hx.2
    omega
  have h4' : ∀ (t q : Nat) (x : Int), (dk [a, b, c, d, e, f, g, i])[4 * t + q]? = some ((dx x).getD q 0) → bt (strOfNums (dk [a, b, c, d, e, f, g, i])) ((4 * t + q : Nat) : Int) = (dx x).getD q 0 := by
    intro t q x hx
    obtain ⟨hlt, he⟩ := List.getElem?_eq_some_iff.mp hx
    rw [hb _ hlt, he]
  have all4 : ∀ {p : Nat → Prop}, p 0 → p 1 → p 2 → p 3 → ∀ q, q < 4 → p q := by
    intro p p0 p1 p2 p3 q hq
    match q, hq with
    | 0, _ => exact p0
    | 1, _ => exact p1
    | 2, _ => exact p2
    | 3, _ => exact p3
  show [gy _ 0, gy _ 1, gy _ 2, gy _ 3, gy _ 4, gy _ 5, gy _ 6, gy _ 7] = _
  rw [hw 0 a h1 (all4 (h4' 0 0 a rfl) (h4' 0 1 a rfl) (h4' 0 2 a rfl) (h4' 0 3 a rfl)), hw 1 b h2 (all4 (h4' 1 0 b rfl) (h4' 1 1 b rfl) (h4' 1 2 b rfl) (h4' 1 3 b rfl)), hw 2 c h3 (all4 (h4' 2 0 c rfl) (h4' 2 1 c rfl) (h4' 2 2 c rfl) (h4' 2 3 c rfl)), hw 3 d h4 (all4 (h4' 3 0 d rfl) (h4' 3 1 d rfl) (h4' 3 2 d rfl) (h4' 3 3 d rfl)), hw 4 e h5 (all4 (h4' 4 0 e rfl) (h4' 4 1 e rfl) (h4' 4 2 e rfl) (h4' 4 3 e rfl)), hw 5 f h6 (all4 (h4' 5 0 f rfl) (h4' 5 1 f rfl) (h4' 5 2 f rfl) (h4' 5 3 f rfl)), hw 6 g h7 (all4 (h4' 6 0 g rfl) (h4' 6 1 g rfl) (h4' 6 2 g rfl) (h4' 6 3 g rfl)), hw 7 i h8 (all4 (h4' 7 0 i rfl) (h4' 7 1 i rfl) (h4' 7 2 i rfl) (h4' 7 3 i rfl))]
/-! the blocks -/
theorem cW : dE bI.v := by
  refine ⟨rfl, ?_⟩
  intro x hx
  simp only [bI.v, List.mem_cons, List.not_mem_nil, or_false] at hx
  unfold W32
  omega
theorem dI {st : List Int} (h : dE st) (s : ByteArray) : ∀ n, dE (fP st s n)
  | 0 => h
  | n + 1 => kZ (dI h s n)
theorem rv (s e : ByteArray) (a b : Nat) (h : b ≤ s.size) : (s ++ e).extract a b = s.extract a b := by
  rw [ByteArray.extract_append, Nat.sub_eq_zero_of_le h]
  apply eU
  simp [ByteArray.data_append, ByteArray.data_extract]
theorem oD (st : List Int) (s e : ByteArray) : ∀ n, 64 * n ≤ s.size → fP st (s ++ e) n = fP st s n
  | 0, _ => rfl
  | n + 1, h => by
    simp only [fP]
    rw [oD st s e n (by omega), rv s e _ _ (by omega)]
theorem pv (s e : ByteArray) (T : List Int) (n j : Nat) (hn : 64 * n ≤ s.size) (hT : s.extract (64 * n) s.size ++ e = strOfNums T) : (s ++ e).extract (64 * (n + j)) (64 * (n + j) + 64) = strOfNums ((T.drop (64 * j)).take 64) := by
  have hP : (s.extract 0 (64 * n)).size = 64 * n := by rw [ByteArray.size_extract]; omega
  have hs : s = s.extract 0 (64 * n) ++ s.extract (64 * n) s.size := by
    rw [ByteArray.extract_append_extract]
    apply eU
    rw [ByteArray.data_extract]
    simp [Nat.min_eq_left, Nat.max_eq_right hn]
    exact (List.take_of_length_le (by rw [Array.length_toList]; exact wa _)).symm
  have h1 : s ++ e = s.extract 0 (64 * n) ++ strOfNums T := by
    rw [← hT, ← ByteArray.append_assoc, ← hs]
  have h2 := ByteArray.extract_append_size_add (a := s.extract 0 (64 * n)) (b := strOfNums T) (i := 64 * j) (j := 64 * j + 64)
  rw [hP] at h2
  rw [h1, show 64 * (n + j) = 64 * n + 64 * j by omega, show 64 * n + 64 * j + 64 = 64 * n + (64 * j + 64) by omega, h2, lH]
  congr 2
  omega
theorem jL (s e : ByteArray) (T : List Int) (st : List Int) (hst : dE st) (n : Nat) (hn : 64 * n ≤ s.size) (hT : s.extract (64 * n) s.size ++ e = strOfNums T) : ∀ j, 64 * j ≤ T.length → Ev (fun k => ep k roundKeys T (fP st s n) j) (fP st (s ++ e) (n + j))
  | 0, _ => by
    rw [Nat.add_zero, oD st s e n hn]
    exact Ev.now _
  | j + 1, h => by
    have ih := jL s e T st hst n hn hT j (by omega)
    simp only [ep]
    refine Ev.bind ih ?_
    rw [show n + (j + 1) = n + j + 1 by omega]
    simp only [fP]
    rw [pv s e T n j hn hT]
    exact gB _ _ (dI hst _ _) (by rw [strOfNums_size, List.length_take, List.length_drop]; omega)
theorem fM (x : Int) (k : Nat) (h0 : 0 ≤ sh8 x k) (h1 : sh8 x k ≤ 4611686018427387904) : sh8 x (k + 1) = sh8 x k / 256 := by
  simp only [sh8]
  rw [Int.tdiv_eq_ediv_of_nonneg h0, w64 (by omega) (by omega)]
theorem nL (x : Int) (h0 : 0 ≤ x) (h1 : x ≤ 4611686018427387904) : mj x 8 = dx ((x / 4294967296) % 4294967296) ++ dx (x % 4294967296) := by
  have y0 : sh8 x 0 = x := rfl
  have y1 := fM x 0 (by rw [y0]; omega) (by rw [y0]; omega)
  rw [y0] at y1
  have y2 := fM x 1 (by rw [y1]; omega) (by rw [y1]; omega)
  rw [y1] at y2
  have y3 := fM x 2 (by rw [y2]; omega) (by rw [y2]; omega)
  rw [y2] at y3
  have y4 := fM x 3 (by rw [y3]; omega) (by rw [y3]; omega)
  rw [y3] at y4
  have y5 := fM x 4 (by rw [y4]; omega) (by rw [y4]; omega)
  rw [y4] at y5
  have y6 := fM x 5 (by rw [y5]; omega) (by rw [y5]; omega)
  rw [y5] at y6
  have y7 := fM x 6 (by rw [y6]; omega) (by rw [y6]; omega)
  rw [y6] at y7
  have e : mj x 8 = [Int.tmod (sh8 x 7) 256 % 256, Int.tmod (sh8 x 6) 256 % 256, Int.tmod (sh8 x 5) 256 % 256, Int.tmod (sh8 x 4) 256 % 256, Int.tmod (sh8 x 3) 256 % 256, Int.tmod (sh8 x 2) 256 % 256, Int.tmod (sh8 x 1) 256 % 256, Int.tmod (sh8 x 0) 256 % 256] := by
    simp [mj]
  rw [e, y7, y6, y5, y4, y3, y2, y1, y0]
  rw [Int.tmod_eq_emod_of_nonneg (by omega), Int.tmod_eq_emod_of_nonneg (by omega), Int.tmod_eq_emod_of_nonneg (by omega), Int.tmod_eq_emod_of_nonneg (by omega), Int.tmod_eq_emod_of_nonneg (by omega), Int.tmod_eq_emod_of_nonneg (by omega), Int.tmod_eq_emod_of_nonneg (by omega), Int.tmod_eq_emod_of_nonneg (by omega)]
  simp only [dx, List.cons_append, List.nil_append, List.cons.injEq, and_true]
  refine ⟨by omega, by omega, by omega, by omega, by omega, by omega, by omega, by omega⟩
theorem oZ (c : Nat) (rest : ByteArray) (hr : rest.size = c % 64) (hc : c ≤ 1000000000) : ∃ e, d7.f (c : Int) = some e ∧ e.size ≤ 200 ∧ rest ++ e = strOfNums (fZ rest (c : Int) 8) := by
  have ez : Int.tmod (wrap64 (119 - (Int.tmod (c : Int) 64))) 64 = ((gc rest : Nat) : Int) := by
    have h1 : Int.tmod (c : Int) 64 = (c : Int) % 64 := Int.tmod_eq_emod_of_nonneg (by omega)
    rw [h1, w64 (by omega) (by omega), Int.tmod_eq_emod_of_nonneg (by omega)]
    unfold gc
    omega
  have hp : gc rest < 64 := Nat.mod_lt _ (by decide)
  have e8 : wrap64 (8 * (c : Int)) = 8 * (c : Int) := w64 (by omega) (by omega)
  have hz : eD.f ((gc rest : Nat) : Int) = some (strOfNums (List.replicate (gc rest) 0)) := by
    unfold eD.f
    rw [za (by omega), Int.toNat_natCast, za (by omega)]
  have h8 : dr.f (8 * (c : Int)) = some (strOfNums (dx ((8 * (c : Int) / 4294967296) % 4294967296) ++ dx (8 * (c : Int) % 4294967296))) := by
    have key : ∀ hi lo : Int, (if (strOfNums (dx hi)).size + (strOfNums (dx lo)).size ≤ 9223372036854775807 then some (strOfNums (dx hi) ++ strOfNums (dx lo)) else none) = some (strOfNums (dx hi ++ dx lo)) := by
      intro hi lo
      rw [gm]
      exact za (by rw [strOfNums_size, strOfNums_size]; show 4 + 4 ≤ _; decide)
    exact key _ _
  refine ⟨(strOfNums [128] ++ strOfNums (List.replicate (gc rest) 0)) ++ strOfNums (dx ((8 * (c : Int) / 4294967296) % 4294967296) ++ dx (8 * (c : Int) % 4294967296)), ?_, ?_, ?_⟩
  · unfold d7.f
    rw [ez, hz, e8, h8]
    simp only [Option.bind_some]
    rw [za (by rw [strOfNums_size]; simp; omega), za (by rw [ByteArray.size_append, strOfNums_size, strOfNums_size]; simp [dx]; exact (show 1 + gc rest ≤ 9223372036854775799 by omega))]
    rfl
  · rw [ByteArray.size_append, ByteArray.size_append, strOfNums_size, strOfNums_size, strOfNums_size]
    simp [dx]
    omega
  · unfold fZ gP
    rw [e8, nL _ (by omega) (by omega), gm, gm]
    have := gm (bl rest) ([128] ++ List.replicate (gc rest) 0 ++ (dx ((8 * (c : Int) / 4294967296) % 4294967296) ++ dx (8 * (c : Int) % 4294967296)))
    rw [iZ] at this
    rw [this]
    simp only [List.append_assoc]
theorem jG (a b : ByteArray) (c : Nat) (ha : a.size = 32) (hb : b.size = c % 64) (hc : c ≤ 1000000000) : cE.f a b (c : Int) = some true := by
  unfold cE.f
  rw [za (by omega), za (by omega)]
  have : aW.f (c : Int) 0 1000000000 = some true := by
    unfold aW.f
    rw [za (by omega), ta (by omega)]
  rw [this]
  simp only [Option.bind_some]
  rw [za trivial, Int.tmod_eq_emod_of_nonneg (by omega)]
  congr 1
  rw [beq_iff_eq]
  omega
def S0 : ByteArray := strOfNums (dk bI.v)
theorem kx {l : List Int} (h : dE l) : (strOfNums (dk l)).size = 32 := by
  rw [strOfNums_size, iQ, h.1]
theorem je : Ev (fun k => cu.f k) (S0, (⟨#[]⟩ : ByteArray), 0) := by
  unfold cu.f
  refine Ev.then (a := bI.v) rfl ?_
  refine Ev.bind (fq _ (by decide) cW.2) ?_
  exact Ev.now _
theorem na {l : List Int} (h : dE l) : Ev (fun k => bb.f k (strOfNums (dk l))) l := by
  have := gp (strOfNums (dk l)) 8 (kx h) (by decide)
  rwa [nu h] at this
theorem rY : er.f = some roundKeys := rfl
theorem jm (s : ByteArray) (hs : s.size ≤ 1000000000) : Ev (fun k => aD.f k S0 (⟨#[]⟩ : ByteArray) 0 s) (strOfNums (dk (fP bI.v s (s.size / 64))), s.extract (64 * (s.size / 64)) s.size, (s.size : Int)) := by
  unfold aD.f
  refine Ev.then (jG S0 _ 0 (kx cW) rfl (by decide)) ?_
  refine Ev.pos rfl ?_
  have e0 : wrap64 (0 + (s.size : Int)) = (s.size : Int) := by rw [w64 (by omega) (by omega)]; omega
  have hd : decide (wrap64 (0 + (s.size : Int)) > 1000000000) = false := by rw [e0]; exact ua (by omega)
  rw [hd]
  refine Ev.step (f := fun k => (bb.f k S0).bind fun t => (er.f).bind fun t2 => (aD.l0 k s t t2 s 0 S0 (⟨#[]⟩ : ByteArray) 0)) (fun k => ?_) ?_
  · simp only [aD.j0]
    have hz : (⟨#[]⟩ : ByteArray).size + s.size ≤ 9223372036854775807 := (show 0 + s.size ≤ 9223372036854775807 by omega)
    rw [Aa (by decide), o5]
    simp only [za hz]
  refine Ev.bind (na cW) ?_
  refine Ev.then rY ?_
  refine Ev.up (g := fun n k => aD.l0 k s (fP bI.v s n) roundKeys s ((64 * n : Nat) : Int) S0 (⟨#[]⟩ : ByteArray) 0) (s.size / 64) ?_ ?_ 0 (Nat.zero_le _)
  · intro n hn hh
    have e1 : wrap64 (((64 * n : Nat) : Int) + 64) = ((64 * (n + 1) : Nat) : Int) := by rw [w64 (by omega) (by omega)]; omega
    refine Ev.step (f := fun k => (ag.f k (fP bI.v s n) roundKeys (s.extract (64 * n) (64 * n + 64))).bind fun t => aD.l0 k s t roundKeys s ((64 * (n + 1) : Nat) : Int) S0 (⟨#[]⟩ : ByteArray) 0) (fun k => ?_) ?_
    · simp only [aD.l0]
      rw [e1, za (by omega), za (by omega), za (by omega), Int.toNat_natCast, Int.toNat_natCast, show 64 * (n + 1) = 64 * n + 64 by omega]
    exact Ev.bind (gB _ _ (dI cW s n) (by rw [ByteArray.size_extract]; omega)) hh
  · have e1 : wrap64 (((64 * (s.size / 64) : Nat) : Int) + 64) = ((64 * (s.size / 64 + 1) : Nat) : Int) := by rw [w64 (by omega) (by omega)]; omega
    refine Ev.step (f := fun k => (bd.f k (fP bI.v s (s.size / 64))).bind fun t => some (t, s.extract (64 * (s.size / 64)) s.size, (s.size : Int))) (fun k => ?_) ?_
    · simp only [aD.l0]
      have ha : (0 : Int) ≤ ((64 * (s.size / 64) : Nat) : Int) := by omega
      have hb : ((64 * (s.size / 64) : Nat) : Int) ≤ (s.size : Int) := by omega
      rw [e1, Aa (by omega)]
      simp only [za ha, za hb, Int.toNat_natCast, e0]
    exact Ev.bind (fq _ (by rw [(dI cW s _).1]; decide) (dI cW s _).2) (Ev.now _)
/-- Both digests of a text. -/
theorem hH (s : ByteArray) (hs : s.size ≤ 1000000000) : ∃ d, d.size = 32 ∧ Ev (fun k => bW.f k s) d ∧ cD.f s = some d := by
  have hrs : (s.extract (64 * (s.size / 64)) s.size).size = s.size % 64 := by rw [ByteArray.size_extract]; omega
  obtain ⟨e, he, hes, hT⟩ := oZ s.size (s.extract (64 * (s.size / 64)) s.size) hrs hs
  have hTl := jl (s.extract (64 * (s.size / 64)) s.size) (s.size : Int) 8
  have hpad : (s.size % 64 + 1 + gc (s.extract (64 * (s.size / 64)) s.size) + 8) % 64 = 0 := by unfold gc; rw [hrs]; omega
  have hes2 : e.size + s.size % 64 = s.size % 64 + 1 + gc (s.extract (64 * (s.size / 64)) s.size) + 8 := by
    have := congrArg ByteArray.size hT
    rw [ByteArray.size_append, strOfNums_size, hTl, hrs] at this
    omega
  rw [hrs] at hTl
  have hn : (s ++ e).size / 64 = s.size / 64 + (fZ (s.extract (64 * (s.size / 64)) s.size) (s.size : Int) 8).length / 64 := by
    rw [ByteArray.size_append, hTl]
    omega
  refine ⟨strOfNums (dk (fP bI.v (s ++ e) ((s ++ e).size / 64))), kx (dI cW _ _), ?_, ?_⟩
  · unfold bW.f
    refine Ev.bind je ?_
    refine Ev.bind (jm s hs) ?_
    refine Ev.bind (a := strOfNums (dk (fP bI.v (s ++ e) ((s ++ e).size / 64)))) ?_ (Ev.now _)
    show Ev (fun k => cT.f k (strOfNums (dk (fP bI.v s (s.size / 64)))) (s.extract (64 * (s.size / 64)) s.size) (s.size : Int)) _
    unfold cT.f
    refine Ev.then (jG _ _ _ (kx (dI cW s _)) hrs hs) ?_
    refine Ev.pos rfl ?_
    refine Ev.bind (na (dI cW s _)) ?_
    refine Ev.then rY ?_
    refine Ev.bind (jL s e _ _ cW (s.size / 64) (by omega) hT _ (by omega)) ?_
    rw [← hn]
    exact fq _ (by rw [(dI cW _ _).1]; decide) (dI cW _ _).2
  · unfold cD.f
    rw [he]
    simp only [Option.bind_some]
    rw [za (by omega), mL _ (dI cW _ _).1]
end Go.Proofs.YtielligodgabiaaGreatDoor.Pure
