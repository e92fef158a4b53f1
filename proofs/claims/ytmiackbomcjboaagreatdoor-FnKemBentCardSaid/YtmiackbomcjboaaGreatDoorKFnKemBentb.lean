/- Plain laws that the law FnKemBent rests on. -/
import Derived.Test.YtmiackbomcjboaaGreatDoorKFnKemBent
namespace Go.Proofs.YtmiackbomcjboaaGreatDoor.Pure
open Go.RowKit YtmiackbomcjboaaGreatDoorW.PrintWords YtmiackbomcjboaaGreatDoorW.PrintLast YtmiackbomcjboaaGreatDoorW.PrintMore YtmiackbomcjboaaGreatDoor.P YtmiackbomcjboaaGreatDoor.Kit
set_option linter.unusedVariables false
set_option linter.unusedSimpArgs false

/-- The words while iH i is being made. -/
def jK (s : ByteArray) (i : Nat) (x : Int) : List Int := gV s i ++ x :: List.replicate (63 - i) 0
theorem rz (s : ByteArray) (i : Nat) (x : Int) : rd (jK s i x) (i : Int) = x := by
 rw [kI, jK, List.getD_eq_getElem?_getD, List.getElem?_append_right (by rw [fW]; omega), fW]
 simp
theorem qS (s : ByteArray) (i : Nat) (x y : Int) : (jK s i x).set i y = jK s i y := by
 unfold jK
 rw [List.set_append_right _ _ (by rw [fW]; omega), fW]
 simp
theorem ia (s : ByteArray) (m i : Nat) (x y : Int) (hm : m / 4 = i) (h : fE s m = jK s i x) (hx : 0 ≤ x) (hx2 : x < 16777216) (hy : y = x * 256 + bt s (m : Int)) : fE s (m + 1) = jK s i y := by
 have hb := dU s (m : Int)
 simp only [fE]
 rw [hm, h, rz, qS, rp 8 _ _ (W32.mod _) (by omega) (W32.mod _) (by omega), hy]
 congr 1
 omega
theorem oY (s : ByteArray) (i : Nat) (hi : i < 16) (h : fE s (4 * i) = jK s i 0) : fE s (4 * (i + 1)) = gV s (i + 1) ++ List.replicate (63 - i) 0 := by
 have b0 := dU s ((4 * i : Nat) : Int)
 have b1 := dU s ((4 * i + 1 : Nat) : Int)
 have b2 := dU s ((4 * i + 2 : Nat) : Int)
 have b3 := dU s ((4 * i + 3 : Nat) : Int)
 have h1 := ia s (4 * i) i 0 (bt s ((4 * i : Nat) : Int)) (by omega) h (by omega) (by omega) (by omega)
 have h2 := ia s (4 * i + 1) i _ (bt s ((4 * i : Nat) : Int) * 256 + bt s ((4 * i + 1 : Nat) : Int)) (by omega) h1 (by omega) (by omega) rfl
 have h3 := ia s (4 * i + 2) i _ ((bt s ((4 * i : Nat) : Int) * 256 + bt s ((4 * i + 1 : Nat) : Int)) * 256 + bt s ((4 * i + 2 : Nat) : Int)) (by omega) h2 (by omega) (by omega) rfl
 have h4 := ia s (4 * i + 3) i _ (iH s i) (by omega) h3 (by omega) (by omega) (by unfold iH; omega)
 rw [show 4 * (i + 1) = 4 * i + 3 + 1 by omega, h4, jK, mP]
 simp
theorem jZ (s : ByteArray) : ∀ i, i ≤ 16 → fE s (4 * i) = gV s i ++ List.replicate (64 - i) 0
 | 0, _ => rfl
 | i + 1, h => by
  have ih := jZ s i (by omega)
  rw [oY s i (by omega) (by rw [ih, jK, show 64 - i = (63 - i) + 1 by omega, List.replicate_succ]), show 64 - (i + 1) = 63 - i by omega]
theorem qg (l : List Int) (t : Nat) : W32 (jq l t) := W32.mod _
theorem mY (l : List Int) (t : Nat) (v : Int) (h : t < l.length) : (l.set t v).take (t + 1) = l.take t ++ [v] := by
 rw [List.take_add_one, List.take_set_of_le (Ca _)]
 simp [h]
theorem lc (s : ByteArray) (j : Nat) (h : j < 48) : (eY s (j + 1)).take (16 + (j + 1)) = (eY s j).take (16 + j) ++ [jq (eY s j) (16 + j)] :=
 mY _ (16 + j) _ (by rw [eF]; omega)
theorem le (s : ByteArray) : ∀ j, j ≤ 48 → ∀ x ∈ (eY s j).take (16 + j), W32 x
 | 0, _ => by
  intro x hx
  have := jZ s 16 (Ca _)
  simp only [eY] at hx
  rw [show 64 = 4 * 16 from rfl, this, List.take_append_of_le_length (by rw [fW]; omega)] at hx
  exact sI s 16 x (List.mem_of_mem_take hx)
 | j + 1, h => by
  intro x hx
  rw [lc s j (by omega), List.mem_append] at hx
  rcases hx with hx | hx
  ·exact le s j (by omega) x hx
  ·simp at hx; subst hx; exact qg _ _
theorem kb (l : List Int) (t i : Nat) (h : i < t) : rd (l.take t) (i : Int) = rd l (i : Int) := by
 rw [kI, kI]
 simp [List.getElem?_take, h]
theorem ud (s : ByteArray) (j i : Nat) (hj : j ≤ 48) (hi : i < 16 + j) : W32 (rd (eY s j) (i : Int)) := by
 have hl := eF s j
 rw [← kb _ (16 + j) i hi, dA _ _ (by rw [List.length_take, hl]; omega)]
 exact le s j hj _ (List.getElem_mem _)
theorem uA (s : ByteArray) (st ks : List Int) (r : List Int) (hst : st.length = 8) (h : Ev (fun k => ae.l1 k st ks (b9.v s) st 0) r) : Ev (fun k => ae.l0 k st ks (gV s 16) 16) r := by
 have h0 : gV s 16 = (eY s 0).take 16 := by
  simp only [eY]
  rw [show 64 = 4 * 16 from rfl, jZ s 16 (Ca _), List.take_append_of_le_length (by rw [fW]; omega), List.take_of_length_le (by rw [fW]; omega)]
 rw [h0]
 refine Ev.up (g := fun j k => ae.l0 k st ks ((eY s j).take (16 + j)) ((16 + j : Nat) : Int)) 48 ?_ ?_ 0 (Nat.zero_le _)
 ·intro j hj hh
  refine Ev.step (fun k => ?_) hh
  have hl : ((eY s j).take (16 + j)).length = 16 + j := by rw [List.length_take, eF]; omega
  have e1 : wrap64 (((16 + j : Nat) : Int) - 2) = ((14 + j : Nat) : Int) := by rw [w64 (by omega) (by omega)]; omega
  have e2 : wrap64 (((16 + j : Nat) : Int) - 7) = ((9 + j : Nat) : Int) := by rw [w64 (by omega) (by omega)]; omega
  have e3 : wrap64 (((16 + j : Nat) : Int) - 15) = ((1 + j : Nat) : Int) := by rw [w64 (by omega) (by omega)]; omega
  have e4 : wrap64 (((16 + j : Nat) : Int) - 16) = ((j : Nat) : Int) := by rw [w64 (by omega) (by omega)]; omega
  have e5 : wrap64 (((16 + j : Nat) : Int) + 1) = ((16 + (j + 1) : Nat) : Int) := by rw [w64 (by omega) (by omega)]; omega
  simp only [ae.l0]
  rw [e1, e2, e3, e4, e5, hl, kb _ _ _ (by omega), kb _ _ _ (by omega), kb _ _ _ (by omega), kb _ _ _ (by omega)]
  rw [Fa (by omega), Fa (by omega), Fa (by omega), uI _ (ud s j _ (by omega) (by omega))]
  simp only [Option.bind_some]
  rw [Fa (by omega), Fa (by omega), Fa (by omega), Fa (by omega), uG _ (ud s j _ (by omega) (by omega))]
  simp only [Option.bind_some]
  rw [Fa (by omega), Fa (by omega), Fa (by omega), lc s j hj]
  congr 2
  unfold jq
  rw [show 16 + j - 2 = 14 + j by omega, show 16 + j - 7 = 9 + j by omega, show 16 + j - 15 = 1 + j by omega, show 16 + j - 16 = j by omega]
  simp only [List.append_cancel_left_eq, List.cons.injEq, and_true]
  omega
 ·refine Ev.step (fun k => ?_) h
  have hl := eF s 48
  simp only [ae.l0, Option.bind_some]
  rw [Ga (by omega), Fa (by simp; omega), List.take_of_length_le (by omega)]
  rfl
theorem wl0 : wrap64 0 = 0 := w64 (by decide) (by decide)
theorem wl1 : wrap64 1 = 1 := w64 (by decide) (by decide)
theorem wl2 : wrap64 2 = 2 := w64 (by decide) (by decide)
theorem wl3 : wrap64 3 = 3 := w64 (by decide) (by decide)
theorem wl4 : wrap64 4 = 4 := w64 (by decide) (by decide)
theorem wl5 : wrap64 5 = 5 := w64 (by decide) (by decide)
theorem wl6 : wrap64 6 = 6 := w64 (by decide) (by decide)
theorem wl7 : wrap64 7 = 7 := w64 (by decide) (by decide)
theorem wl8 : wrap64 8 = 8 := w64 (by decide) (by decide)
theorem rX (k : Nat) (x0 x1 x7 : List Int) (a b c d e f g h t u v : Int) : ae.l2 (k + 1 + 1 + 1 + 1 + 1 + 1 + 1 + 1) x0 x1 x7 [a, b, c, d, e, f, g, h] t u v 7 = ae.l1 k x0 x1 x7 [(u + v) % 4294967296, a, b, c, (d + u) % 4294967296, e, f, g] (wrap64 (t + 1)) := by
 simp [ae.l2, wl0, wl1, wl2, wl3, wl4, wl5, wl6, wl7, wl8, rd]
theorem rt (k : Nat) (a b c d e f g h a' b' c' d' e' f' g' h' : Int) : ae.l3 (k + 1 + 1 + 1 + 1 + 1 + 1 + 1 + 1 + 1) [a, b, c, d, e, f, g, h] [a', b', c', d', e', f', g', h'] [] 0 = some [(a + a') % 4294967296, (b + b') % 4294967296, (c + c') % 4294967296, (d + d') % 4294967296, (e + e') % 4294967296, (f + f') % 4294967296, (g + g') % 4294967296, (h + h') % 4294967296] := by
 simp [ae.l3, wl0, wl1, wl2, wl3, wl4, wl5, wl6, wl7, wl8, rd]
theorem mA (a b c d e f g h a' b' c' d' e' f' g' h' : Int) : je [a, b, c, d, e, f, g, h] [a', b', c', d', e', f', g', h'] 8 = [(a' + a) % 4294967296, (b' + b) % 4294967296, (c' + c) % 4294967296, (d' + d) % 4294967296, (e' + e) % 4294967296, (f' + f) % 4294967296, (g' + g) % 4294967296, (h' + h) % 4294967296] := rfl
/-- eD words. -/
def eD (l : List Int) : Prop := l.length = 8 ∧ ∀ x ∈ l, W32 x
theorem eD.cases {l : List Int} (h : eD l) : ∃ a b c d e f g i, l = [a, b, c, d, e, f, g, i] ∧ W32 a ∧ W32 b ∧ W32 c ∧ W32 d ∧ W32 e ∧ W32 f ∧ W32 g ∧ W32 i := by
 obtain ⟨hl, hw⟩ := h
 match l, hl with
 | [a, b, c, d, e, f, g, i], _ => exact ⟨a, b, c, d, e, f, g, i, rfl, hw _ (by simp), hw _ (by simp), hw _ (by simp), hw _ (by simp), hw _ (by simp), hw _ (by simp), hw _ (by simp), hw _ (by simp)⟩
theorem eD.mk' {a b c d e f g i : Int} (h1 : W32 a) (h2 : W32 b) (h3 : W32 c) (h4 : W32 d) (h5 : W32 e) (h6 : W32 f) (h7 : W32 g) (h8 : W32 i) : eD [a, b, c, d, e, f, g, i] := by
 refine ⟨rfl, fun x hx => ?_⟩
 simp only [List.mem_cons, List.not_mem_nil, or_false] at hx
 rcases hx with rfl | rfl | rfl | rfl | rfl | rfl | rfl | rfl <;> assumption
theorem qV {k w : Int} {l : List Int} (h : eD l) : eD (rnd k w l) := by
 obtain ⟨a, b, c, d, e, f, g, i, rfl, h1, h2, h3, h4, h5, h6, h7, h8⟩ := h.cases
 exact eD.mk' (W32.mod _) h1 h2 h3 (W32.mod _) h5 h6 h7
theorem iW {ws st : List Int} (h : eD st) : ∀ t, eD (rounds ws st t)
 | 0 => h
 | t + 1 => qV (iW h t)
theorem td {st v : List Int} (hst : eD st) (hv : eD v) : ∃ k0, ∀ k, k0 ≤ k → ae.l3 k st v [] 0 = some (je st v 8) := by
 obtain ⟨a, b, c, d, e, f, g, i, rfl, _⟩ := hv.cases
 obtain ⟨a', b', c', d', e', f', g', i', rfl, _⟩ := hst.cases
 refine ⟨9, fun k hk => ?_⟩
 obtain ⟨k', rfl⟩ : ∃ k', k = k' + 1 + 1 + 1 + 1 + 1 + 1 + 1 + 1 + 1 := ⟨k - 9, by omega⟩
 rw [rt, mA]
 simp only [Int.add_comm]
theorem tl (ws : List Int) {st v : List Int} (hst : eD st) (hv : eD v) : ∃ k0, ∀ k, k0 ≤ k → ae.l1 k st roundKeys ws v ((64 : Nat) : Int) = some (je st v 8) := by
 obtain ⟨k0, h⟩ := td hst hv
 refine ⟨k0 + 1, fun k hk => ?_⟩
 obtain ⟨k', rfl⟩ : ∃ k', k = k' + 1 := ⟨k - 1, by omega⟩
 simp only [ae.l1]
 rw [Ga (by decide)]
 exact h k' (by omega)
theorem uH (ws : List Int) (st : List Int) (hst : eD st) (hwl : ws.length = 64) (R : Nat → List Int) (h0 : R 0 = st) (hs : ∀ t, R (t + 1) = rnd (rd roundKeys (t : Int)) (rd ws (t : Int)) (R t)) (he : ∀ t, eD (R t)) : Ev (fun k => ae.l1 k st roundKeys ws st 0) (je st (R 64) 8) := by
 have hkl : roundKeys.length = 64 := rfl
 have key : Ev (fun k => ae.l1 k st roundKeys ws (R 0) ((0 : Nat) : Int)) (je st (R 64) 8) := by
  refine Ev.up (g := fun t k => ae.l1 k st roundKeys ws (R t) (t : Int)) 64 ?_ ?_ 0 (Nat.zero_le _)
  ·intro t ht hh
   obtain ⟨a, b, c, d, e, f, g, i, hv, h1, h2, h3, h4, h5, h6, h7, h8⟩ := (he t).cases
   obtain ⟨K, hK⟩ := hh
   refine ⟨K + 9, fun k hk => ?_⟩
   obtain ⟨k', rfl⟩ : ∃ k', k = k' + 1 + 1 + 1 + 1 + 1 + 1 + 1 + 1 + 1 := ⟨k - 9, by omega⟩
   have hgo := hK k' (by omega)
   simp only [ae.l1]
   rw [hv]
   rw [Fa (by omega), Fa (by simp), Fa (by simp), Fa (by simp), Fa (by simp), show rd [a, b, c, d, e, f, g, i] 4 = e from rfl, show rd [a, b, c, d, e, f, g, i] 0 = a from rfl, show rd [a, b, c, d, e, f, g, i] 5 = f from rfl, show rd [a, b, c, d, e, f, g, i] 6 = g from rfl, show rd [a, b, c, d, e, f, g, i] 7 = i from rfl, show rd [a, b, c, d, e, f, g, i] 1 = b from rfl, show rd [a, b, c, d, e, f, g, i] 2 = c from rfl, S_e e h5]
   simp only [Option.bind_some]
   rw [Fa (by omega), Fa (by omega), Fa (by omega), Fa (by simp), Fa (by simp), Fa (by simp), S_a a h1]
   simp only [Option.bind_some]
   rw [rX, dI t (by omega)]
   rw [← hgo, hs t, hv]
   simp only [rnd]
   rw [uh e h5, show (4294967295 - e) % 4294967296 = 4294967295 - e by have := h5.1; have := h5.2; omega]
   congr 1
   simp only [List.cons.injEq, and_true, true_and]
   constructor <;> omega
  ·exact tl ws hst (he 64)
 rw [h0] at key
 exact key
theorem qh (st : List Int) (s : ByteArray) (R : Nat → List Int) (hR : R = rounds (b9.v s) st) : cA.v st s = je st (R 64) 8 := by
 rw [hR]; rfl
theorem ug (s : ByteArray) (st : List Int) (hst : eD st) : Ev (fun k => ae.l1 k st roundKeys (b9.v s) st 0) (cA.v st s) := by
 obtain ⟨R, hR⟩ : ∃ R, R = rounds (b9.v s) st := ⟨_, rfl⟩
 rw [qh st s R hR]
 exact uH _ st hst (eF s 48) R (by rw [hR]; rfl) (fun t => by rw [hR]; rfl) (fun t => by rw [hR]; exact iW hst t)
/-- The reference's round is the program's. -/
theorem im (s : ByteArray) (st : List Int) (hst : eD st) (hs : s.size = 64) : Ev (fun k => ae.f k st roundKeys s) (cA.v st s) := by
 unfold ae.f
 exact Ev.bind (iC s 16 (by omega) (by decide)) (uA s st roundKeys _ hst.1 (ug s st hst))
theorem tL {st v : List Int} (hst : eD st) (hv : eD v) : eD (je st v 8) := by
 obtain ⟨a, b, c, d, e, f, g, i, rfl, _⟩ := hv.cases
 obtain ⟨a', b', c', d', e', f', g', i', rfl, _⟩ := hst.cases
 rw [mA]
 exact eD.mk' (W32.mod _) (W32.mod _) (W32.mod _) (W32.mod _) (W32.mod _) (W32.mod _) (W32.mod _) (W32.mod _)
theorem mc {st : List Int} {s : ByteArray} (h : eD st) : eD (cA.v st s) := tL h (iW h 64)
theorem iJ (a b : List Int) : strOfNums a ++ strOfNums b = strOfNums (a ++ b) := by
 apply eW
 simp [strOfNums, ByteArray.data_append]
theorem m7 (xs : List Int) (a b : Nat) : (strOfNums xs).extract a b = strOfNums ((xs.drop a).take (b - a)) := by
 apply eW
 rw [ByteArray.data_extract]
 simp [strOfNums, List.map_drop, List.map_take]
theorem ri (s : ByteArray) : (⟨#[]⟩ : ByteArray) ++ s = s := by
 apply eW
 simp [ByteArray.data_append]
theorem rH (xs : List Int) (j : Nat) (hj : j < xs.length) (h : 0 ≤ xs[j] ∧ xs[j] ≤ 255) : bt (strOfNums xs) (j : Int) = xs[j] := by
 have hs : j < (strOfNums xs).size := by rw [strOfNums_size]; exact hj
 rw [← cY (strOfNums xs) (j : Int) (by simpa using hs)]
 simp only [Int.toNat_natCast]
 rw [jO xs j hs, UInt8.toNat_ofNat']
 omega
def et (x : Int) : List Int := [(x / 16777216) % 256, (x / 65536) % 256, (x / 256) % 256, x % 256]
def dT (l : List Int) : List Int := l.flatMap et
theorem jX (l : List Int) : (dT l).length = 4 * l.length := by
 induction l with
 | nil => rfl
 | cons x l ih => simp only [dT, List.flatMap_cons, List.length_append, List.length_cons] at ih ⊢; rw [ih]; simp [et]; omega
theorem k8 (l : List Int) (i : Nat) (h : i < l.length) : dT (l.take (i + 1)) = dT (l.take i) ++ et l[i] := by
 show (l.take (i + 1)).flatMap et = (l.take i).flatMap et ++ et l[i]
 rw [← gp l i h, List.flatMap_append, List.flatMap_singleton]
theorem gr (l : List Int) (hl : l.length ≤ 1000000) (hw : ∀ x ∈ l, W32 x) : Ev (fun k => bu.f k l) (strOfNums (dT l)) := by
 refine Ev.up (g := fun i k => bu.l0 k l (dT (l.take i)) (i : Int)) l.length ?_ ?_ 0 (Nat.zero_le _)
 ·intro i hi hh
  refine Ev.step (fun k => ?_) hh
  have hx := hw l[i] (List.getElem_mem hi)
  simp only [bu.l0, Option.bind_some]
  rw [Fa (by omega), Fa (by omega), Fa (by rw [jX, List.length_take]; simp; omega), dI i (by omega), k8 l i hi, dA l i hi]
  congr 2
  unfold et
  rw [Int.tdiv_eq_ediv_of_nonneg hx.1, Int.tdiv_eq_ediv_of_nonneg hx.1, Int.tdiv_eq_ediv_of_nonneg hx.1, Int.tmod_eq_emod_of_nonneg hx.1]
  have h1 := hx.1
  have h2 := hx.2
  generalize l[i] = x at h1 h2 ⊢
  simp only [List.cons.injEq, and_true]
  refine ⟨by omega, by omega, by omega, by omega⟩
 ·refine Ev.step (f := fun _ => some (strOfNums (dT l))) (fun k => ?_) (Ev.now _)
  simp only [bu.l0]
  rw [Ga (by omega), List.take_length]
theorem jQ (l : List Int) (hl : l.length = 8) : ∀ n, n ≤ 8 → bX.cat l n = some (strOfNums (dT (l.take n)))
 | 0, _ => rfl
 | n + 1, h => by
  simp only [bX.cat]
  rw [jQ l hl n (by omega)]
  simp only [Option.bind_some]
  show (some (strOfNums (et (rd l (n : Int))))).bind _ = _
  simp only [Option.bind_some]
  rw [Fa (by rw [strOfNums_size, strOfNums_size, jX, List.length_take]; simp [et]; omega), dA l n (by omega), iJ, k8 l n (by omega)]
theorem oa (l : List Int) (hl : l.length = 8) : bX.f l = some (strOfNums (dT l)) := by
 unfold bX.f
 rw [jQ l hl 8 (Ca _), List.take_of_length_le (by omega)]
theorem pf (x : Int) : ∀ y ∈ et x, 0 ≤ y ∧ y ≤ 255 := by
 intro y hy
 simp only [et, List.mem_cons, List.not_mem_nil, or_false] at hy
 rcases hy with rfl | rfl | rfl | rfl <;> omega
theorem nU (l : List Int) : ∀ y ∈ dT l, 0 ≤ y ∧ y ≤ 255 := by
 intro y hy
 obtain ⟨x, _, hx⟩ := List.mem_flatMap.mp hy
 exact pf x y hx
theorem ph {l : List Int} (h : eD l) : gV (strOfNums (dT l)) 8 = l := by
 obtain ⟨a, b, c, d, e, f, g, i, rfl, h1, h2, h3, h4, h5, h6, h7, h8⟩ := h.cases
 have hb : ∀ (j : Nat) (hj : j < (dT [a, b, c, d, e, f, g, i]).length), bt (strOfNums (dT [a, b, c, d, e, f, g, i])) (j : Int) = (dT [a, b, c, d, e, f, g, i])[j] :=
  fun j hj => rH _ j hj (nU _ _ (List.getElem_mem hj))
 have hw : ∀ (t : Nat) (x : Int), W32 x → (∀ q, q < 4 → bt (strOfNums (dT [a, b, c, d, e, f, g, i])) ((4 * t + q : Nat) : Int) = (et x).getD q 0) → iH (strOfNums (dT [a, b, c, d, e, f, g, i])) t = x := by
  intro t x hx hq
  unfold iH
  have q0 := hq 0 (by decide)
  have q1 := hq 1 (by decide)
  have q2 := hq 2 (by decide)
  have q3 := hq 3 (by decide)
  simp only [Nat.add_zero] at q0
  rw [q0, q1, q2, q3]
  simp only [et, List.getD_cons_zero, List.getD_cons_succ]
  have := hx.1
  have := hx.2
  omega
 have h4' : ∀ (t q : Nat) (x : Int), (dT [a, b, c, d, e, f, g, i])[4 * t + q]? = some ((et x).getD q 0) → bt (strOfNums (dT [a, b, c, d, e, f, g, i])) ((4 * t + q : Nat) : Int) = (et x).getD q 0 := by
  intro t q x hx
  obtain ⟨hlt, he⟩ := List.getElem?_eq_some_iff.mp hx
  rw [hb _ hlt, he]
 have all4 : ∀ {p : Nat → Prop}, p 0 → p 1 → p 2 → p 3 → ∀ q, q < 4 → p q := by
  intro p p0 p1 p2 p3 q hq
  match q, hq with
  | 0, _ => exact p0
  | 1, _ => exact p1
  | 2, _ => exact p2
  | 3, _ => exact p3
 show [iH _ 0, iH _ 1, iH _ 2, iH _ 3, iH _ 4, iH _ 5, iH _ 6, iH _ 7] = _
 rw [hw 0 a h1 (all4 (h4' 0 0 a rfl) (h4' 0 1 a rfl) (h4' 0 2 a rfl) (h4' 0 3 a rfl)), hw 1 b h2 (all4 (h4' 1 0 b rfl) (h4' 1 1 b rfl) (h4' 1 2 b rfl) (h4' 1 3 b rfl)), hw 2 c h3 (all4 (h4' 2 0 c rfl) (h4' 2 1 c rfl) (h4' 2 2 c rfl) (h4' 2 3 c rfl)), hw 3 d h4 (all4 (h4' 3 0 d rfl) (h4' 3 1 d rfl) (h4' 3 2 d rfl) (h4' 3 3 d rfl)), hw 4 e h5 (all4 (h4' 4 0 e rfl) (h4' 4 1 e rfl) (h4' 4 2 e rfl) (h4' 4 3 e rfl)), hw 5 f h6 (all4 (h4' 5 0 f rfl) (h4' 5 1 f rfl) (h4' 5 2 f rfl) (h4' 5 3 f rfl)), hw 6 g h7 (all4 (h4' 6 0 g rfl) (h4' 6 1 g rfl) (h4' 6 2 g rfl) (h4' 6 3 g rfl)), hw 7 i h8 (all4 (h4' 7 0 i rfl) (h4' 7 1 i rfl) (h4' 7 2 i rfl) (h4' 7 3 i rfl))]
/-! the blocks -/
theorem dC : eD bT.v := by
 refine ⟨rfl, ?_⟩
 intro x hx
 simp only [bT.v, List.mem_cons, List.not_mem_nil, or_false] at hx
 unfold W32
 omega
theorem eC {st : List Int} (h : eD st) (s : ByteArray) : ∀ n, eD (gO st s n)
 | 0 => h
 | n + 1 => mc (eC h s n)
theorem kE (s e : ByteArray) (a b : Nat) (h : b ≤ s.size) : (s ++ e).extract a b = s.extract a b := by
 rw [ByteArray.extract_append, Nat.sub_eq_zero_of_le h]
 apply eW
 simp [ByteArray.data_append, ByteArray.data_extract]
theorem qy (st : List Int) (s e : ByteArray) : ∀ n, 64 * n ≤ s.size → gO st (s ++ e) n = gO st s n
 | 0, _ => rfl
 | n + 1, h => by
  simp only [gO]
  rw [qy st s e n (by omega), kE s e _ _ (by omega)]
theorem r7 (s e : ByteArray) (T : List Int) (n j : Nat) (hn : 64 * n ≤ s.size) (hT : s.extract (64 * n) s.size ++ e = strOfNums T) : (s ++ e).extract (64 * (n + j)) (64 * (n + j) + 64) = strOfNums ((T.drop (64 * j)).take 64) := by
 have hP : (s.extract 0 (64 * n)).size = 64 * n := by rw [ByteArray.size_extract]; omega
 have hs : s = s.extract 0 (64 * n) ++ s.extract (64 * n) s.size := by
  rw [ByteArray.extract_append_extract]
  apply eW
  rw [ByteArray.data_extract]
  simp [Nat.min_eq_left, Nat.max_eq_right hn]
  exact (List.take_of_length_le (by rw [Array.length_toList]; exact Ca _)).symm
 have h1 : s ++ e = s.extract 0 (64 * n) ++ strOfNums T := by
  rw [← hT, ← ByteArray.append_assoc, ← hs]
 have h2 := ByteArray.extract_append_size_add (a := s.extract 0 (64 * n)) (b := strOfNums T) (i := 64 * j) (j := 64 * j + 64)
 rw [hP] at h2
 rw [h1, show 64 * (n + j) = 64 * n + 64 * j by omega, show 64 * n + 64 * j + 64 = 64 * n + (64 * j + 64) by omega, h2, m7]
 congr 2
 omega
theorem lf (s e : ByteArray) (T : List Int) (st : List Int) (hst : eD st) (n : Nat) (hn : 64 * n ≤ s.size) (hT : s.extract (64 * n) s.size ++ e = strOfNums T) : ∀ j, 64 * j ≤ T.length → Ev (fun k => fk k roundKeys T (gO st s n) j) (gO st (s ++ e) (n + j))
 | 0, _ => by
  rw [Nat.add_zero, qy st s e n hn]
  exact Ev.now _
 | j + 1, h => by
  have ih := lf s e T st hst n hn hT j (by omega)
  simp only [fk]
  refine Ev.bind ih ?_
  rw [show n + (j + 1) = n + j + 1 by omega]
  simp only [gO]
  rw [r7 s e T n j hn hT]
  exact im _ _ (eC hst _ _) (by rw [strOfNums_size, List.length_take, List.length_drop]; omega)
theorem gW (x : Int) (k : Nat) (h0 : 0 ≤ sh8 x k) (h1 : sh8 x k ≤ 4611686018427387904) : sh8 x (k + 1) = sh8 x k / 256 := by
 simp only [sh8]
 rw [Int.tdiv_eq_ediv_of_nonneg h0, w64 (by omega) (by omega)]
theorem pP (x : Int) (h0 : 0 ≤ x) (h1 : x ≤ 4611686018427387904) : nV x 8 = et ((x / 4294967296) % 4294967296) ++ et (x % 4294967296) := by
 have y0 : sh8 x 0 = x := rfl
 have y1 := gW x 0 (by rw [y0]; omega) (by rw [y0]; omega)
 rw [y0] at y1
 have y2 := gW x 1 (by rw [y1]; omega) (by rw [y1]; omega)
 rw [y1] at y2
 have y3 := gW x 2 (by rw [y2]; omega) (by rw [y2]; omega)
 rw [y2] at y3
 have y4 := gW x 3 (by rw [y3]; omega) (by rw [y3]; omega)
 rw [y3] at y4
 have y5 := gW x 4 (by rw [y4]; omega) (by rw [y4]; omega)
 rw [y4] at y5
 have y6 := gW x 5 (by rw [y5]; omega) (by rw [y5]; omega)
 rw [y5] at y6
 have y7 := gW x 6 (by rw [y6]; omega) (by rw [y6]; omega)
 rw [y6] at y7
 have e : nV x 8 = [Int.tmod (sh8 x 7) 256 % 256, Int.tmod (sh8 x 6) 256 % 256, Int.tmod (sh8 x 5) 256 % 256, Int.tmod (sh8 x 4) 256 % 256, Int.tmod (sh8 x 3) 256 % 256, Int.tmod (sh8 x 2) 256 % 256, Int.tmod (sh8 x 1) 256 % 256, Int.tmod (sh8 x 0) 256 % 256] := by
  simp [nV]
 rw [e, y7, y6, y5, y4, y3, y2, y1, y0]
 rw [Int.tmod_eq_emod_of_nonneg (by omega), Int.tmod_eq_emod_of_nonneg (by omega), Int.tmod_eq_emod_of_nonneg (by omega), Int.tmod_eq_emod_of_nonneg (by omega), Int.tmod_eq_emod_of_nonneg (by omega), Int.tmod_eq_emod_of_nonneg (by omega), Int.tmod_eq_emod_of_nonneg (by omega), Int.tmod_eq_emod_of_nonneg (by omega)]
 simp only [et, List.cons_append, List.nil_append, List.cons.injEq, and_true]
 refine ⟨by omega, by omega, by omega, by omega, by omega, by omega, by omega, by omega⟩
theorem qW (c : Nat) (rest : ByteArray) (hr : rest.size = c % 64) (hc : c ≤ 1000000000) : ∃ e, fb.f (c : Int) = some e ∧ e.size ≤ 200 ∧ rest ++ e = strOfNums (hJ rest (c : Int) 8) := by
 have ez : Int.tmod (wrap64 (119 - (Int.tmod (c : Int) 64))) 64 = ((ij rest : Nat) : Int) := by
  have h1 : Int.tmod (c : Int) 64 = (c : Int) % 64 := Int.tmod_eq_emod_of_nonneg (by omega)
  rw [h1, w64 (by omega) (by omega), Int.tmod_eq_emod_of_nonneg (by omega)]
  unfold ij
  omega
 have hp : ij rest < 64 := Nat.mod_lt _ (by decide)
 have e8 : wrap64 (8 * (c : Int)) = 8 * (c : Int) := w64 (by omega) (by omega)
 have hz : fB.f ((ij rest : Nat) : Int) = some (strOfNums (List.replicate (ij rest) 0)) := by
  unfold fB.f
  rw [Fa (by omega), Int.toNat_natCast, Fa (by omega)]
 have h8 : d7.f (8 * (c : Int)) = some (strOfNums (et ((8 * (c : Int) / 4294967296) % 4294967296) ++ et (8 * (c : Int) % 4294967296))) := by
  have key : ∀ hi lo : Int, (if (strOfNums (et hi)).size + (strOfNums (et lo)).size ≤ 9223372036854775807 then some (strOfNums (et hi) ++ strOfNums (et lo)) else none) = some (strOfNums (et hi ++ et lo)) := by
   intro hi lo
   rw [iJ]
   exact Fa (by rw [strOfNums_size, strOfNums_size]; show 4 + 4 ≤ _; decide)
  exact key _ _
 refine ⟨(strOfNums [128] ++ strOfNums (List.replicate (ij rest) 0)) ++ strOfNums (et ((8 * (c : Int) / 4294967296) % 4294967296) ++ et (8 * (c : Int) % 4294967296)), ?_, ?_, ?_⟩
 ·unfold fb.f
  rw [ez, hz, e8, h8]
  simp only [Option.bind_some]
  rw [Fa (by rw [strOfNums_size]; simp; omega), Fa (by rw [ByteArray.size_append, strOfNums_size, strOfNums_size]; simp [et]; exact (show 1 + ij rest ≤ 9223372036854775799 by omega))]
  rfl
 ·rw [ByteArray.size_append, ByteArray.size_append, strOfNums_size, strOfNums_size, strOfNums_size]
  simp [et]
  omega
 ·unfold hJ ja
  rw [e8, pP _ (by omega) (by omega), iJ, iJ]
  have := iJ (bl rest) ([128] ++ List.replicate (ij rest) 0 ++ (et ((8 * (c : Int) / 4294967296) % 4294967296) ++ et (8 * (c : Int) % 4294967296)))
  rw [kr] at this
  rw [this]
  simp only [List.append_assoc]
theorem ll (a b : ByteArray) (c : Nat) (ha : a.size = 32) (hb : b.size = c % 64) (hc : c ≤ 1000000000) : da.f a b (c : Int) = some true := by
 unfold da.f
 rw [Fa (by omega), Fa (by omega)]
 have : aZ.f (c : Int) 0 1000000000 = some true := by
  unfold aZ.f
  rw [Fa (by omega), ya (by omega)]
 rw [this]
 simp only [Option.bind_some]
 rw [Fa trivial, Int.tmod_eq_emod_of_nonneg (by omega)]
 congr 1
 rw [beq_iff_eq]
 omega
def S0 : ByteArray := strOfNums (dT bT.v)
theorem lS {l : List Int} (h : eD l) : (strOfNums (dT l)).size = 32 := by
 rw [strOfNums_size, jX, h.1]
theorem kk : Ev (fun k => cU.f k) (S0, (⟨#[]⟩ : ByteArray), 0) := by
 unfold cU.f
 refine Ev.then (a := bT.v) rfl ?_
 refine Ev.bind (gr _ (by decide) dC.2) ?_
 exact Ev.now _
theorem o5 {l : List Int} (h : eD l) : Ev (fun k => bm.f k (strOfNums (dT l))) l := by
 have := iC (strOfNums (dT l)) 8 (lS h) (by decide)
 rwa [ph h] at this
theorem uB : ft.f = some roundKeys := rfl
theorem kB (s : ByteArray) (hs : s.size ≤ 1000000000) : Ev (fun k => aI.f k S0 (⟨#[]⟩ : ByteArray) 0 s) (strOfNums (dT (gO bT.v s (s.size / 64))), s.extract (64 * (s.size / 64)) s.size, (s.size : Int)) := by
 unfold aI.f
 refine Ev.then (ll S0 _ 0 (lS dC) rfl (by decide)) ?_
 refine Ev.pos rfl ?_
 have e0 : wrap64 (0 + (s.size : Int)) = (s.size : Int) := by rw [w64 (by omega) (by omega)]; omega
 have hd : decide (wrap64 (0 + (s.size : Int)) > 1000000000) = false := by rw [e0]; exact za (by omega)
 rw [hd]
 refine Ev.step (f := fun k => (bm.f k S0).bind fun t => (ft.f).bind fun t2 => (aI.l0 k s t t2 s 0 S0 (⟨#[]⟩ : ByteArray) 0)) (fun k => ?_) ?_
 ·simp only [aI.j0]
  have hz : (⟨#[]⟩ : ByteArray).size + s.size ≤ 9223372036854775807 := (show 0 + s.size ≤ 9223372036854775807 by omega)
  rw [Ga (by decide), ri]
  simp only [Fa hz]
 refine Ev.bind (o5 dC) ?_
 refine Ev.then uB ?_
 refine Ev.up (g := fun n k => aI.l0 k s (gO bT.v s n) roundKeys s ((64 * n : Nat) : Int) S0 (⟨#[]⟩ : ByteArray) 0) (s.size / 64) ?_ ?_ 0 (Nat.zero_le _)
 ·intro n hn hh
  have e1 : wrap64 (((64 * n : Nat) : Int) + 64) = ((64 * (n + 1) : Nat) : Int) := by rw [w64 (by omega) (by omega)]; omega
  refine Ev.step (f := fun k => (ae.f k (gO bT.v s n) roundKeys (s.extract (64 * n) (64 * n + 64))).bind fun t => aI.l0 k s t roundKeys s ((64 * (n + 1) : Nat) : Int) S0 (⟨#[]⟩ : ByteArray) 0) (fun k => ?_) ?_
  ·simp only [aI.l0]
   rw [e1, Fa (by omega), Fa (by omega), Fa (by omega), Int.toNat_natCast, Int.toNat_natCast, show 64 * (n + 1) = 64 * n + 64 by omega]
  exact Ev.bind (im _ _ (eC dC s n) (by rw [ByteArray.size_extract]; omega)) hh
 ·have e1 : wrap64 (((64 * (s.size / 64) : Nat) : Int) + 64) = ((64 * (s.size / 64 + 1) : Nat) : Int) := by rw [w64 (by omega) (by omega)]; omega
  refine Ev.step (f := fun k => (bu.f k (gO bT.v s (s.size / 64))).bind fun t => some (t, s.extract (64 * (s.size / 64)) s.size, (s.size : Int))) (fun k => ?_) ?_
  ·simp only [aI.l0]
   have ha : (0 : Int) ≤ ((64 * (s.size / 64) : Nat) : Int) := by omega
   have hb : ((64 * (s.size / 64) : Nat) : Int) ≤ (s.size : Int) := by omega
   rw [e1, Ga (by omega)]
   simp only [Fa ha, Fa hb, Int.toNat_natCast, e0]
  exact Ev.bind (gr _ (by rw [(eC dC s _).1]; decide) (eC dC s _).2) (Ev.now _)
/-- Both digests of a text. -/
theorem dW (s : ByteArray) (hs : s.size ≤ 1000000000) : ∃ d, d.size = 32 ∧ Ev (fun k => bc.f k s) d ∧ cw.f s = some d := by
 have hrs : (s.extract (64 * (s.size / 64)) s.size).size = s.size % 64 := by rw [ByteArray.size_extract]; omega
 obtain ⟨e, he, hes, hT⟩ := qW s.size (s.extract (64 * (s.size / 64)) s.size) hrs hs
 have hTl := kS (s.extract (64 * (s.size / 64)) s.size) (s.size : Int) 8
 have hpad : (s.size % 64 + 1 + ij (s.extract (64 * (s.size / 64)) s.size) + 8) % 64 = 0 := by unfold ij; rw [hrs]; omega
 have hes2 : e.size + s.size % 64 = s.size % 64 + 1 + ij (s.extract (64 * (s.size / 64)) s.size) + 8 := by
  have := congrArg ByteArray.size hT
  rw [ByteArray.size_append, strOfNums_size, hTl, hrs] at this
  omega
 rw [hrs] at hTl
 have hn : (s ++ e).size / 64 = s.size / 64 + (hJ (s.extract (64 * (s.size / 64)) s.size) (s.size : Int) 8).length / 64 := by
  rw [ByteArray.size_append, hTl]
  omega
 refine ⟨strOfNums (dT (gO bT.v (s ++ e) ((s ++ e).size / 64))), lS (eC dC _ _), ?_, ?_⟩
 ·unfold bc.f
  refine Ev.bind kk ?_
  refine Ev.bind (kB s hs) ?_
  refine Ev.bind (a := strOfNums (dT (gO bT.v (s ++ e) ((s ++ e).size / 64)))) ?_ (Ev.now _)
  show Ev (fun k => dz.f k (strOfNums (dT (gO bT.v s (s.size / 64)))) (s.extract (64 * (s.size / 64)) s.size) (s.size : Int)) _
  unfold dz.f
  refine Ev.then (ll _ _ _ (lS (eC dC s _)) hrs hs) ?_
  refine Ev.pos rfl ?_
  refine Ev.bind (o5 (eC dC s _)) ?_
  refine Ev.then uB ?_
  refine Ev.bind (lf s e _ _ dC (s.size / 64) (by omega) hT _ (by omega)) ?_
  rw [← hn]
  exact gr _ (by rw [(eC dC _ _).1]; decide) (eC dC _ _).2
 ·unfold cw.f
  rw [he]
  simp only [Option.bind_some]
  rw [Fa (by omega), oa _ (eC dC _ _).1]
theorem w01 : wrap64 (0 + 1) = 1 := by rw [w64 (by decide) (by decide)]; rfl
theorem w00 : wrap64 (0 + 0) = 0 := by rw [w64 (by decide) (by decide)]; rfl
theorem w20 : wrap64 (2 + 0) = 2 := by rw [w64 (by decide) (by decide)]; rfl
theorem w21 : wrap64 (2 + 1) = 3 := by rw [w64 (by decide) (by decide)]; rfl
theorem w02 : wrap64 (0 * 2) = 0 := by rw [w64 (by decide) (by decide)]; rfl
theorem w12 : wrap64 (1 * 2) = 2 := by rw [w64 (by decide) (by decide)]; rfl
theorem w22 : wrap64 (2 + 2) = 4 := by rw [w64 (by decide) (by decide)]; rfl
theorem w23 : wrap64 (0 + 2) = 2 := by rw [w64 (by decide) (by decide)]; rfl
theorem w11 : wrap64 (1 + 1) = 2 := by rw [w64 (by decide) (by decide)]; rfl
def qT (s : ByteArray) : List (List Int) := [kT s 0 0, kT s 1 0, kT s 0 1, kT s 1 1]
theorem jr (s : ByteArray) (hs : s.size ≤ 1048576) : Ev (fun k => az.f k s) (qT s) := by
 have r1 : ∀ (l : List (List Int)) (i j j' : Int) (hj : j < 2) (hw : wrap64 (j + 1) = j') (hl : l.length ≤ 5) (res : List (List Int)) (h : Ev (fun k => az.l1 k s (l ++ [kT s j i]) i j') res), Ev (fun k => az.l1 k s l i j) res := by
  intro l i j j' hj hw hl res h
  refine Ev.step (fun k => by simp only [az.l1]; rw [Fa hj, hw]) ?_
  exact Ev.bind (lK s j i hs) (Ev.pos (by omega) h)
 have r2 : ∀ (l : List (List Int)) (i i' : Int) (hw : wrap64 (i + 1) = i') (res : List (List Int)) (h : Ev (fun k => az.l0 k s l i') res), Ev (fun k => az.l1 k s l i 2) res := by
  intro l i i' hw res h
  exact Ev.step (fun k => by simp only [az.l1]; rw [Ga (by decide), hw]) h
 have r3 : ∀ (l : List (List Int)) (i : Int) (hi : i < 2) (res : List (List Int)) (h : Ev (fun k => az.l1 k s l i 0) res), Ev (fun k => az.l0 k s l i) res := by
  intro l i hi res h
  exact Ev.step (fun k => by simp only [az.l0]; rw [Fa hi]) h
 unfold az.f
 refine r3 _ 0 (by decide) _ (r1 _ 0 0 1 (by decide) w01 (by simp) _ (r1 _ 0 1 2 (by decide) w11 (by simp) _ (r2 _ 0 1 w01 _ (r3 _ 1 (by decide) _ (r1 _ 1 0 1 (by decide) w01 (by simp) _ (r1 _ 1 1 2 (by decide) w11 (by simp) _ (r2 _ 1 2 w11 _ ?_)))))))
 exact Ev.step (f := fun _ => some (qT s)) (fun k => by simp only [az.l0]; rw [Ga (by decide)]; rfl) (Ev.now _)
theorem ji (s : ByteArray) (a b : Int) (hb : b = wrap64 (a + 1)) (ha : a = wrap64 (a + 0)) (hs : s.size ≤ 1048576) : Ev (fun k => bN.f k s a) [gP s a, gP s b] := by
 have u := fun x => jL s x hs
 unfold bN.f
 refine Ev.step (f := fun k => (bR.f k s a).bind fun t => bN.l0 k s a [t] 1) (fun k => by simp only [bN.l0]; rw [Fa (by decide), w01, ← ha]; simp) (Ev.bind (u a) ?_)
 refine Ev.step (f := fun k => (bR.f k s b).bind fun t => bN.l0 k s a [gP s a, t] 2) (fun k => by simp only [bN.l0]; rw [Fa (by decide), w11, ← hb]; simp) (Ev.bind (u b) ?_)
 exact Ev.step (f := fun _ => some _) (fun k => by simp only [bN.l0]; rw [Ga (by decide)]) (Ev.now _)
theorem oe (a b A B : List Int) (h1 : Ev (fun k => aU.f k a) A) (h2 : Ev (fun k => aU.f k b) B) : Ev (fun k => cg.f k [a, b]) [A, B] := by
 unfold cg.f
 refine Ev.step (f := fun k => (aU.f k a).bind fun t => cg.l0 k [t] [a, b] 2 1) (fun k => by simp only [cg.l0]; rw [Fa (by simp), Fa (by decide), Fa (by simp), w01]; rfl) (Ev.bind h1 ?_)
 refine Ev.step (f := fun k => (aU.f k b).bind fun t => cg.l0 k [A, t] [a, b] 2 2) (fun k => by simp only [cg.l0]; rw [Fa (by simp), Fa (by decide), Fa (by simp), w11]; simp [dV]) (Ev.bind h2 ?_)
 exact Ev.step (f := fun _ => some _) (fun k => by simp only [cg.l0]; rw [Ga (by decide)]) (Ev.now _)
theorem iZ (d rho sg : ByteArray) (m : List (List Int)) (s : List (List Int)) (P S : ByteArray) (i : Int) (hi : i < 2) (hl : s.length ≤ 5) (e u : List Int) (res : ByteArray × ByteArray × Bool)
  (f1 : Ev (fun k => bz.f k sg i) e) (f2 : Ev (fun k => ba.f k e) u) (hp : S.size + (cq u).size ≤ 9223372036854775807)
  (h : Ev (fun k => bq.l0 k d rho sg m (s ++ [u]) P (S ++ cq u) (wrap64 (i + 1))) res) : Ev (fun k => bq.l0 k d rho sg m s P S i) res := by
 refine Ev.step (fun k => by simp only [bq.l0]; rw [Fa hi]) ?_
 exact Ev.bind f1 (Ev.bind f2 (Ev.pos (by omega) (Ev.bind (g8 u) (Ev.pos hp h))))
theorem jb (d rho sg : ByteArray) (m s row : List (List Int)) (P S : ByteArray) (i i2 : Int) (hi : i < 2) (g e x v : List Int) (res : ByteArray × ByteArray × Bool)
  (j0 j1 : Int) (hm : m.length = 4) (z0 : wrap64 (i * 2) = j0) (z1 : wrap64 (j0 + 2) = j1) (q0 : 0 ≤ j0 ∧ j0 ≤ j1 ∧ j1 ≤ 4) (k3 : (m.take (j1 : Int).toNat).drop (j0 : Int).toNat = row) (k4 : wrap64 (2 + i) = i2)
  (f1 : Ev (fun k => aV.f k row s) g) (f2 : Ev (fun k => bz.f k sg i2) e) (f3 : Ev (fun k => ba.f k e) x) (f4 : Ev (fun k => aG.f k g x) v) (hp : P.size + (cq v).size ≤ 9223372036854775807)
  (h : Ev (fun k => bq.l1 k d rho sg m s (P ++ cq v) S (wrap64 (i + 1))) res) : Ev (fun k => bq.l1 k d rho sg m s P S i) res := by
 refine Ev.step (fun k => by simp only [bq.l1]; rw [Fa hi, z0, z1, Fa q0.1, Fa q0.2.1, Fa (by omega), k3, k4]) ?_
 exact Ev.bind f1 (Ev.bind f2 (Ev.bind f3 (Ev.bind f4 (Ev.bind (g8 v) (Ev.pos hp h)))))
theorem qv (s e : ByteArray) (a b : Nat) (h : s.size ≤ a) : (s ++ e).extract a b = e.extract (a - s.size) (b - s.size) := by
 apply eW
 rw [jY, m9, jY, List.drop_append, List.drop_eq_nil_of_le (by rw [pC]; exact h), pC, List.nil_append]
 congr 1
 omega
theorem nS (s : ByteArray) (n : Nat) (h : s.size = n) : s.extract 0 n = s := by
 apply eW
 rw [jY, List.drop_zero, ← h, ← pC, Nat.sub_zero, List.take_length]
theorem lU (s : ByteArray) : (⟨#[]⟩ : ByteArray) ++ s = s := by
 apply eW
 rw [m9]
 rfl
theorem nM {l : List Int} (h : bU l = true) : (cq l).size = 384 ∧ df (cq l) = (l, true) := by
 have hf := lh h
 have hl := gv h
 have e : cq l = dX 12 l := by unfold cq; rw [Fa h]
 have hs : (dX 12 l).size = 384 := by rw [(ma 12 l hf).2, hl]
 have u := oM 12 l (by decide) (by decide) (by omega) hf
 rw [hl] at u
 rw [e]
 refine ⟨hs, ?_⟩
 unfold df
 have e2 : dY (dX 12 l) 12 256 = (l, true) := u
 rw [e2]
 exact Fa ⟨rfl, h⟩
theorem rW (u v : List Int) (hu : bU u = true) (hv : bU v = true) (t : ByteArray) : fS ((cq u ++ cq v) ++ t) = ([u, v], true) := by
 obtain ⟨u1, u2⟩ := nM hu
 obtain ⟨v1, v2⟩ := nM hv
 have hs : (cq u ++ cq v).size = 768 := by rw [ByteArray.size_append, u1, v1]
 have e1 : ((cq u ++ cq v) ++ t).extract 0 384 = cq u := by
  rw [kE _ _ _ _ (by omega), kE _ _ _ _ (by omega), nS _ _ u1]
 have e2 : ((cq u ++ cq v) ++ t).extract 384 768 = cq v := by
  rw [kE _ _ _ _ (by omega), qv _ _ _ _ (by omega), u1]
  exact nS _ _ v1
 unfold fS
 rw [e1, e2, u2, v2]
 rfl
theorem ju {l : List Int} (h : bU l = true) : ∃ R, bU R = true ∧ Ev (fun k => ba.f k l) R ∧ Ev (fun k => aU.f k l) R := by
 obtain ⟨f, rfl, hf⟩ := fY h
 exact ⟨vec (om f), eo fun i _ => ti hf i, o6 f hf, o1 f hf⟩
theorem rV {l : List Int} (h : bU l = true) : ∃ R, bU R = true ∧ Ev (fun k => al.f k l) R ∧ Ev (fun k => ah.f k l) R := by
 obtain ⟨f, rfl, hf⟩ := fY h
 exact ⟨vec (sm f), eo fun i _ => fj _, mR f hf, mE f hf⟩
theorem sw {l u : List Int} (h : bU l = true) (h2 : bU u = true) : ∃ R, bU R = true ∧ Ev (fun k => aH.f k l u) R ∧ Ev (fun k => br.f k l u) R := by
 obtain ⟨f, rfl, hf⟩ := fY h
 obtain ⟨g, rfl, hg⟩ := fY h2
 exact ⟨vec (dm f g), eo fun i _ => pX f g i, mv f g hf hg, ms f g hf hg⟩
theorem kC {l u : List Int} (h : bU l = true) (h2 : bU u = true) : ∃ R, bU R = true ∧ Ev (fun k => aG.f k l u) R ∧ Ev (fun k => bV.f k l u) R := by
 obtain ⟨f, rfl, hf⟩ := fY h
 obtain ⟨g, rfl, hg⟩ := fY h2
 exact ⟨_, eo fun i _ => fj _, lH f g hf hg, lF f g hf hg⟩
theorem ub {l u : List Int} (h : bU l = true) (h2 : bU u = true) : ∃ R, bU R = true ∧ Ev (fun k => aK.f k l u) R ∧ Ev (fun k => b7.f k l u) R := by
 obtain ⟨f, rfl, hf⟩ := fY h
 obtain ⟨g, rfl, hg⟩ := fY h2
 exact ⟨_, eo fun i _ => fj _, lE f g hf hg, lI f g hf hg⟩
theorem s6 : bU (List.replicate 256 0) = true := by
 rw [gz]
 exact eo fun i _ => by decide
theorem oc {a0 a1 b0 b1 : List Int} (h0 : bU a0 = true) (h1 : bU a1 = true) (h2 : bU b0 = true) (h3 : bU b1 = true) :
  ∃ R, bU R = true ∧ Ev (fun k => aV.f k [a0, a1] [b0, b1]) R ∧ Ev (fun k => bP.f k [a0, a1] [b0, b1]) R := by
 obtain ⟨p, hp, sp, ip⟩ := sw h0 h2
 obtain ⟨q, hq, sq, iq⟩ := sw h1 h3
 obtain ⟨u, hu, su, iu⟩ := kC s6 hp
 obtain ⟨v, hv, sv, iv⟩ := kC hu hq
 have la : (([a0, a1] : List (List Int)).length : Int) = 2 := rfl
 have lb : (([b0, b1] : List (List Int)).length : Int) = 2 := rfl
 refine ⟨v, hv, ?_, ?_⟩
 ·unfold aV.f
  refine Ev.pos (by decide) ?_
  refine Ev.step (f := fun k => (aH.f k a0 b0).bind fun t => (aG.f k (List.replicate 256 0) t).bind fun t2 => aV.l0 k [a0, a1] [b0, b1] t2 1) (fun k => ?_) (Ev.bind sp (Ev.bind su ?_))
  ·simp only [aV.l0]
   rw [la, lb, Fa (by decide), Fa (by decide), Fa (by decide), w01]
   rfl
  refine Ev.step (f := fun k => (aH.f k a1 b1).bind fun t => (aG.f k u t).bind fun t2 => aV.l0 k [a0, a1] [b0, b1] t2 2) (fun k => ?_) (Ev.bind sq (Ev.bind sv ?_))
  ·simp only [aV.l0]
   rw [la, lb, Fa (by decide), Fa (by decide), Fa (by decide), w11]
   rfl
  refine Ev.step (f := fun _ => some v) (fun k => ?_) (Ev.now _)
  simp only [aV.l0]
  rw [la, Ga (by decide)]
 ·unfold bP.f
  refine Ev.pos (by decide) ?_
  refine Ev.step (f := fun k => (br.f k a0 b0).bind fun t => (bV.f k (List.replicate 256 0) t).bind fun t2 => bP.l0 k [a0, a1] [b0, b1] t2 2 1) (fun k => ?_) (Ev.bind ip (Ev.bind iu ?_))
  ·simp only [bP.l0]
   rw [la, lb, Fa (by decide), Fa (by decide), Fa (by decide), Fa (by decide), w01]
   rfl
  refine Ev.step (f := fun k => (br.f k a1 b1).bind fun t => (bV.f k u t).bind fun t2 => bP.l0 k [a0, a1] [b0, b1] t2 2 2) (fun k => ?_) (Ev.bind iq (Ev.bind iv ?_))
  ·simp only [bP.l0]
   rw [la, lb, Fa (by decide), Fa (by decide), Fa (by decide), Fa (by decide), w11]
   rfl
  refine Ev.step (f := fun _ => some v) (fun k => ?_) (Ev.now _)
  simp only [bP.l0]
  rw [Ga (by decide)]
theorem qI (s : ByteArray) (i : Int) (hs : s.size ≤ 1048576) : Ev (fun k => cj.f k s i true) [kT s i 0, kT s i 1] := by
 have u := fun x y => lL s x y hs
 unfold cj.f
 refine Ev.step (f := fun k => (ar.f k s i 0).bind fun t => cj.l0 k s i true [t] 1) (fun k => by simp only [cj.l0]; rw [Fa (by decide), Fa trivial, w01]; simp) (Ev.bind (u i 0) ?_)
 refine Ev.step (f := fun k => (ar.f k s i 1).bind fun t => cj.l0 k s i true [kT s i 0, t] 2) (fun k => by simp only [cj.l0]; rw [Fa (by decide), Fa trivial, w11]; simp) (Ev.bind (u i 1) ?_)
 exact Ev.step (f := fun _ => some _) (fun k => by simp only [cj.l0]; rw [Ga (by decide)]) (Ev.now _)
theorem nm (m c : ByteArray) (T : List (List Int)) (rho : ByteArray) (R E : List (List Int)) (o : ByteArray) (i : Int) (hi : i < 2) (h0 : 0 ≤ i) (row : List (List Int)) (s v e u q : List Int) (p : ByteArray) (res : ByteArray × Bool) (hE : i < (E.length : Int)) (he : dV E i = e)
  (f0 : Ev (fun k => cj.f k rho i true) row) (f1 : Ev (fun k => bP.f k row R) s) (f2 : Ev (fun k => ah.f k s) v) (f4 : Ev (fun k => bV.f k v e) u) (f5 : Ev (fun k => bs.f k u 10) q) (f6 : Ev (fun k => aA.f k q 10) p) (hp : o.size + p.size ≤ 9223372036854775807)
  (h : Ev (fun k => aE.l0 k m c T rho R E (o ++ p) (wrap64 (i + 1))) res) : Ev (fun k => aE.l0 k m c T rho R E o i) res := by
 refine Ev.step (fun k => by simp only [aE.l0]; rw [Fa hi, he]) ?_
 exact Ev.bind f0 (Ev.bind f1 (Ev.bind f2 (Ev.pos h0 (Ev.pos hE (Ev.bind f4 (Ev.bind f5 (Ev.bind f6 (Ev.pos hp h))))))))
theorem iS (d : Nat) {l : List Int} (hl : bU l = true) : (dX d (sqV l d)).size = 32 * d := by
 unfold dX sqV
 rw [strOfNums_size, fp, List.length_map, gv hl]
 omega
theorem s7 (m : ByteArray) : bU (fo m) = true := by
 refine eo (f := re m) fun i _ => ?_
 unfold re
 generalize (bt m ((i / 8 : Nat) : Int)).toNat / 2 ^ (i % 8) = x
 rw [gE (by decide) (by show 0 ≤ ((x % 2 : Nat) : Int) ∧ ((x % 2 : Nat) : Int) ≤ 1; omega)]
 show 0 ≤ (3329 * ((x % 2 : Nat) : Int) + 1) / 2 ∧ (3329 * ((x % 2 : Nat) : Int) + 1) / 2 ≤ 3328
 omega
theorem nQ (s : ByteArray) (d : Nat) (hd : d = 4 ∨ d = 10) (hs : s.size = 32 * d) : bU (rN s (d : Int)) = true := by
 have hb := lX s
 have h8 : (256 : Nat) ^ (32 * d) = 2 ^ (d * 256) := by rw [show (256 : Nat) = 2 ^ 8 from rfl, ← Nat.pow_mul]; congr 1; omega
 rw [hs, h8] at hb
 have e : rN s (d : Int) = vec fun i => dn ((dy s / 2 ^ (d * i) % 2 ^ d : Nat) : Int) (d : Int) := by
  have u : dY s (d : Int) 256 = (dg d (dy s) 256, true) := by
   unfold dY
   rw [Fa ⟨by omega, by decide, by show s.size = (256 * d + 7) / 8; omega⟩]
   exact Fa hb
  unfold rN
  rw [u]
  unfold vec dg
  rw [List.map_map]
  rfl
 rw [e]
 refine eo fun i _ => ?_
 rcases hd with rfl | rfl
 ·generalize dy s / 2 ^ (4 * i) = x
  rw [gE (by decide) (by show 0 ≤ ((x % 16 : Nat) : Int) ∧ ((x % 16 : Nat) : Int) ≤ 15; omega)]
  show 0 ≤ (3329 * ((x % 16 : Nat) : Int) + 8) / 16 ∧ (3329 * ((x % 16 : Nat) : Int) + 8) / 16 ≤ 3328
  omega
 ·generalize dy s / 2 ^ (10 * i) = x
  rw [gE (by decide) (by show 0 ≤ ((x % 1024 : Nat) : Int) ∧ ((x % 1024 : Nat) : Int) ≤ 1023; omega)]
  show 0 ≤ (3329 * ((x % 1024 : Nat) : Int) + 512) / 1024 ∧ (3329 * ((x % 1024 : Nat) : Int) + 512) / 1024 ≤ 3328
  omega
theorem qk (s c : ByteArray) (a0 a1 : List Int) (h0 : bU a0 = true) (h1 : bU a1 = true) (hs : s.size = 1632) (hT : fS s = ([a0, a1], true)) (hc : c.size = 768) :
  ∃ w, bU w = true ∧ Ev (fun k => bg.f k s c) (w, true) ∧ Ev (fun k => bb.f k s c) (w, true) := by
 have hcb : ((c.size : Int) != 768) = false := bne_eq_false_iff_eq.mpr (by omega)
 have u0 := nQ (c.extract 0 320) 10 (.inr rfl) (by rw [ByteArray.size_extract]; omega)
 have u1 := nQ (c.extract 320 640) 10 (.inr rfl) (by rw [ByteArray.size_extract]; omega)
 have uv := nQ (c.extract 640 c.size) 4 (.inl rfl) (by rw [ByteArray.size_extract]; omega)
 obtain ⟨n0, hn0, sn0, in0⟩ := ju u0
 obtain ⟨n1, hn1, sn1, in1⟩ := ju u1
 obtain ⟨p, hp, sp, ip⟩ := oc h0 h1 hn0 hn1
 obtain ⟨q, hq, sq, iq⟩ := rV hp
 obtain ⟨v, hv, sv, iv⟩ := ub uv hq
 obtain ⟨w1, w2, w3, w4, w5⟩ := uJ
 have c320 : (320 : Int) ≤ c.size := by omega
 have c640 : (640 : Int) ≤ c.size := by omega
 have sP := gx s (by omega)
 have iP := gI s (by omega)
 rw [hT] at sP iP
 unfold bg.f bb.f
 rw [hcb]
 refine ⟨v, hv, Ev.pos (by omega) ?_, Ev.pos (by omega) ?_⟩
 ·refine Ev.step (f := fun k => (bd.f k s).bind fun bt => if bt.2 = true then bg.l0 k c bt.1 [] 0 else some ([], false)) (fun k => ?_) (Ev.bind sP (Ev.pos rfl ?_))
  ·simp only [bg.j0]
   rw [Ga (by decide)]
  refine Ev.step (f := fun k => (aJ.f k (c.extract 0 320) 10).bind fun t => (ba.f k t).bind fun t2 => bg.l0 k c [a0, a1] ([] ++ [t2]) 1) (fun k => ?_) (Ev.bind (fA _ 10) (Ev.bind sn0 ?_))
  ·simp only [bg.l0, w1, w2, w3]
   rw [Fa (by decide), Fa (by decide), Fa (by decide), Fa c320]
   rfl
  refine Ev.step (f := fun k => (aJ.f k (c.extract 320 640) 10).bind fun t => (ba.f k t).bind fun t2 => bg.l0 k c [a0, a1] ([n0] ++ [t2]) 2) (fun k => ?_) (Ev.bind (fA _ 10) (Ev.bind sn1 ?_))
  ·simp only [bg.l0, w3, w4, w5]
   rw [Fa (by decide), Fa (by decide), Fa (by decide), Fa c640]
   rfl
  refine Ev.step (f := fun k => (aJ.f k (c.extract 640 c.size) 4).bind fun t => (aV.f k [a0, a1] [n0, n1]).bind fun t2 => (al.f k t2).bind fun t3 => (aK.f k t t3).bind fun t4 => some (t4, true)) (fun k => ?_) (Ev.bind (fA _ 4) (Ev.bind sp (Ev.bind sq (Ev.bind sv (Ev.now _)))))
  simp only [bg.l0]
  rw [Ga (by decide), Fa c640]
  rfl
 ·refine Ev.step (f := fun k => (bp.f k s).bind fun bt => if bt.2 = true then bb.l0 k c bt.1 [] 0 else some ([], false)) (fun k => ?_) (Ev.bind iP (Ev.pos rfl ?_))
  ·simp only [bb.j0]
   rw [Ga (by decide)]
  have l0 := gG (c.extract 0 320) 10 256
  have l1 := gG (c.extract 320 640) 10 256
  have l2 := gG (c.extract 640 c.size) 4 256
  refine Ev.step (f := fun k => (ay.f k (c.extract 0 320) 10 256).bind fun bt => (bj.f k bt.1 10).bind fun t => (aU.f k t).bind fun t2 => bb.l0 k c [a0, a1] ([] ++ [t2]) 1) (fun k => ?_) (Ev.bind (f9 _ 10 256) (Ev.bind (gf _ 10 l0) (Ev.bind in0 ?_)))
  ·simp only [bb.l0, w1, w2, w3]
   rw [Fa (by decide), Fa (by decide), Fa (by decide), Fa c320]
   rfl
  refine Ev.step (f := fun k => (ay.f k (c.extract 320 640) 10 256).bind fun bt => (bj.f k bt.1 10).bind fun t => (aU.f k t).bind fun t2 => bb.l0 k c [a0, a1] ([n0] ++ [t2]) 2) (fun k => ?_) (Ev.bind (f9 _ 10 256) (Ev.bind (gf _ 10 l1) (Ev.bind in1 ?_)))
  ·simp only [bb.l0, w3, w4, w5]
   rw [Fa (by decide), Fa (by decide), Fa (by decide), Fa c640]
   rfl
  refine Ev.step (f := fun k => (ay.f k (c.extract 640 c.size) 4 256).bind fun bt => (bj.f k bt.1 4).bind fun t => (bP.f k [a0, a1] [n0, n1]).bind fun t2 => (ah.f k t2).bind fun t3 => (b7.f k t t3).bind fun t4 => some (t4, true)) (fun k => ?_) (Ev.bind (f9 _ 4 256) (Ev.bind (gf _ 4 l2) (Ev.bind ip (Ev.bind iq (Ev.bind iv (Ev.now _))))))
  simp only [bb.l0]
  rw [Ga (by decide), Fa c640]
  rfl
theorem oT (l : List Int) (hl : l.length ≤ 1048576) : ∃ s m : ByteArray, s.size = 32 ∧ m.size = 32 ∧ Ev (fun k => cF.f k l) (s, m) := by
 obtain ⟨h, e0, c0⟩ := o0 l hl
 obtain ⟨x, i1, h1, e1, x0, x1, c1⟩ := jT l 0 h 4 c0 (by decide)
 obtain ⟨t, i2, h2, e2, ts, c2⟩ := nn l i1 h1 x c1 (by omega)
 obtain ⟨d, d32, sd, _⟩ := dW t (by omega)
 obtain ⟨y, i3, h3, e3, y0, y1, c3⟩ := jT l i2 h2 4 c2 (by decide)
 obtain ⟨u, i4, h4, e4, us, c4⟩ := nn l i3 h3 y c3 (by omega)
 obtain ⟨q, q32, sq, _⟩ := dW u (by omega)
 refine ⟨d, q, d32, q32, ?_⟩
 unfold cF.f
 exact Ev.bind e0 (Ev.then e1 (Ev.bind e2 (Ev.bind sd (Ev.then e3 (Ev.bind e4 (Ev.bind sq (Ev.now _)))))))
theorem sf (a : ByteArray) (ha : a.size = 32) : ∃ (P S : ByteArray) (u0 u1 v0 v1 : List Int), bU u0 = true ∧ bU u1 = true ∧ bU v0 = true ∧ bU v1 = true ∧ P.size = 800 ∧ S.size = 1632 ∧ fS P = ([v0, v1], true) ∧ fS S = ([u0, u1], true) ∧ S.extract 768 1568 = P ∧ Ev (fun k => bq.f k a) (P, S, true) := by
 have hz : (a.size : Int) = 32 := by omega
 have one : ∀ (d : ByteArray) (x : UInt8), (d ++ (⟨#[x]⟩ : ByteArray)).size = d.size + 1 := fun d x => by rw [ByteArray.size_append]; rfl
 obtain ⟨d, d32, sd, id⟩ := dW a (by omega)
 obtain ⟨rho, r32, sr, ir⟩ := dW (d ++ (⟨#[114]⟩ : ByteArray)) (by rw [one]; omega)
 obtain ⟨sg, g32, ss, is⟩ := dW (d ++ (⟨#[115]⟩ : ByteArray)) (by rw [one]; omega)
 obtain ⟨zz, z32, sz, iz⟩ := dW (d ++ (⟨#[122]⟩ : ByteArray)) (by rw [one]; omega)
 have rs : rho.size ≤ 1048576 := by omega
 have gs : sg.size ≤ 1048576 := by omega
 have ul := fun x y => qA rho x y
 have sl := fun n => kX sg n
 obtain ⟨u0, u0l, n1, n2⟩ := ju (sl 0)
 obtain ⟨u1, u1l, n3, n4⟩ := ju (sl 1)
 obtain ⟨x0, x0l, n5, n6⟩ := ju (sl 2)
 obtain ⟨x1, x1l, n7, n8⟩ := ju (sl 3)
 obtain ⟨g0, k0, a1, a2⟩ := oc (ul 0 0) (ul 1 0) u0l u1l
 obtain ⟨v0, l0, a3, a4⟩ := kC k0 x0l
 obtain ⟨g1, k1, b1, b2⟩ := oc (ul 0 1) (ul 1 1) u0l u1l
 obtain ⟨v1, l1, b3, b4⟩ := kC k1 x1l
 have p0 := (nM l0).1
 have p1 := (nM l1).1
 have q0 := (nM u0l).1
 have q1 := (nM u1l).1
 obtain ⟨P1, hP1⟩ : ∃ P1, P1 = cq v0 ++ cq v1 := ⟨_, rfl⟩
 obtain ⟨S1, hS1⟩ : ∃ S1, S1 = cq u0 ++ cq u1 := ⟨_, rfl⟩
 have zP1 : P1.size = 768 := by rw [hP1, ByteArray.size_append]; omega
 have zS1 : S1.size = 768 := by rw [hS1, ByteArray.size_append]; omega
 have e0 : (⟨#[]⟩ : ByteArray).size = 0 := rfl
 obtain ⟨dp, dp32, sp, ip⟩ := dW (P1 ++ rho) (by rw [ByteArray.size_append]; omega)
 have y1 : (P1 ++ rho).size = 800 := by rw [ByteArray.size_append]; omega
 have y2 : (S1 ++ (P1 ++ rho)).size = 1568 := by rw [ByteArray.size_append]; omega
 have y3 : ((S1 ++ (P1 ++ rho)) ++ dp).size = 1600 := by rw [ByteArray.size_append]; omega
 refine ⟨P1 ++ rho, ((S1 ++ (P1 ++ rho)) ++ dp) ++ zz, u0, u1, v0, v1, u0l, u1l, l0, l1, y1, by rw [ByteArray.size_append]; omega, by rw [hP1]; exact rW v0 v1 l0 l1 rho, ?_, ?_, ?_⟩
 ·rw [hS1, ByteArray.append_assoc, ByteArray.append_assoc]
  exact rW u0 u1 u0l u1l _
 ·rw [kE _ _ _ _ (by omega), kE _ _ _ _ (by omega), qv _ _ _ _ (by omega), zS1]
  exact nS _ _ y1
 ·unfold bq.f
  refine Ev.pos hz (Ev.bind sd (Ev.pos (by omega) (Ev.bind sr (Ev.bind ss (Ev.bind (jr rho rs) ?_)))))
  refine iZ d rho sg _ [] _ _ 0 (by decide) (by decide) _ u0 _ (dS sg 0 gs) n1 (by omega) ?_
  rw [w01, lU]
  refine iZ d rho sg _ _ _ _ 1 (by decide) (by simp) _ u1 _ (dS sg 1 gs) n3 (by omega) ?_
  rw [w11, ← hS1]
  refine Ev.step (f := fun k => bq.l1 k d rho sg (qT rho) [u0, u1] (⟨#[]⟩ : ByteArray) S1 0) (fun k => by simp only [bq.l0]; rw [Ga (by decide)]; rfl) ?_
  refine jb d rho sg _ _ _ _ _ 0 2 (by decide) g0 _ x0 v0 _ 0 2 rfl w02 w23 (by decide) rfl w20 a1 (dS sg 2 gs) n5 a3 (by omega) ?_
  rw [w01, lU]
  refine jb d rho sg _ _ _ _ _ 1 3 (by decide) g1 _ x1 v1 _ 2 4 rfl w12 w22 (by decide) rfl w21 b1 (dS sg 3 gs) n7 b3 (by omega) ?_
  rw [w11, ← hP1]
  refine Ev.step (fun k => by simp only [bq.l1]; rw [Ga (by decide)]) ?_
  exact Ev.pos (by omega) (Ev.pos (by omega) (Ev.bind sp (Ev.pos (by omega) (Ev.pos (by omega) (Ev.bind sz (Ev.pos (by omega) (Ev.now _)))))))
theorem jh (m c : ByteArray) (T M R : List (List Int)) (o : ByteArray) (i i2 : Int) (hi : i < 2) (c0 c1 s v e u : List Int) (p : ByteArray) (res : ByteArray × Bool)
  (j0 j1 : Int) (hM : M.length = 4) (z0 : wrap64 (0 + i) = j0) (z1 : wrap64 (2 + i) = j1) (q0 : 0 ≤ j0 ∧ j0 < 4) (q1 : 0 ≤ j1 ∧ j1 < 4) (k2 : dV M j0 = c0) (k5 : dV M j1 = c1) (k6 : wrap64 (2 + i) = i2)
  (f1 : Ev (fun k => aV.f k [c0, c1] R) s) (f2 : Ev (fun k => al.f k s) v) (f3 : Ev (fun k => bz.f k c i2) e) (f4 : Ev (fun k => aG.f k v e) u) (f5 : Ev (fun k => aM.f k u 10) p) (hp : o.size + p.size ≤ 9223372036854775807)
  (h : Ev (fun k => am.l1 k m c T M R (o ++ p) (wrap64 (i + 1))) res) : Ev (fun k => am.l1 k m c T M R o i) res := by
 refine Ev.step (f := fun k => am.l2 k m c T M R o i [] 0) (fun k => by simp only [am.l1]; rw [Fa hi]) ?_
 refine Ev.step (f := fun k => am.l2 k m c T M R o i [c0] 1) (fun k => by simp only [am.l2]; rw [Fa (by decide), w02, z0, Fa q0.1, Fa (by omega), k2, w01]; simp) ?_
 refine Ev.step (f := fun k => am.l2 k m c T M R o i [c0, c1] 2) (fun k => by simp only [am.l2]; rw [Fa (by decide), w12, z1, Fa q1.1, Fa (by omega), k5, w11]; simp) ?_
 refine Ev.step (fun k => by simp only [am.l2]; rw [Ga (by decide), k6]) ?_
 exact Ev.bind f1 (Ev.bind f2 (Ev.bind f3 (Ev.bind f4 (Ev.bind f5 (Ev.pos hp h)))))
theorem ly (P m c : ByteArray) (v0 v1 : List Int) (h0 : bU v0 = true) (h1 : bU v1 = true) (hP : P.size = 800) (hT : fS P = ([v0, v1], true)) (m32 : m.size = 32) (c32 : c.size = 32) :
  ∃ C : ByteArray, C.size = 768 ∧ Ev (fun k => am.f k P m c) (C, true) ∧ Ev (fun k => aE.f k P m c) (C, true) := by
 have hp8 : (P.size : Int) = 800 := by omega
 have h : fZ P = true := by unfold fZ; rw [Fa hp8, hT]
 have hcb : ((c.size : Int) != 32) = false := bne_eq_false_iff_eq.mpr (by omega)
 have hr : (P.extract 768 P.size).size ≤ 1048576 := by rw [ByteArray.size_extract]; omega
 have cs : c.size ≤ 1048576 := by omega
 have sP := gx P (by omega)
 have iP := gI P (by omega)
 have ul := fun x y => qA (P.extract 768 P.size) x y
 have sl := fun n => kX c n
 obtain ⟨R0, R0l, n1, n2⟩ := ju (sl 0)
 obtain ⟨R1, R1l, n3, n4⟩ := ju (sl 1)
 have part : ∀ {a b e : List Int}, bU a = true → bU b = true → bU e = true → ∃ s v u : List Int, bU u = true ∧ Ev (fun k => aV.f k [a, b] [R0, R1]) s ∧ Ev (fun k => bP.f k [a, b] [R0, R1]) s ∧ Ev (fun k => al.f k s) v ∧ Ev (fun k => ah.f k s) v ∧ Ev (fun k => aG.f k v e) u ∧ Ev (fun k => bV.f k v e) u := by
  intro a b e ha hb he
  obtain ⟨s, s1, s2, s3⟩ := oc ha hb R0l R1l
  obtain ⟨v, v1, v2, v3⟩ := rV s1
  obtain ⟨u, u1, u2, u3⟩ := kC v1 he
  exact ⟨s, v, u, u1, s2, s3, v2, v3, u2, u3⟩
 obtain ⟨s0, y0, u0, l0, a1, a2, a3, a4, a5, a6⟩ := part (ul 0 0) (ul 0 1) (sl 2)
 obtain ⟨s1, y1, u1, l1, b1, b2, b3, b4, b5, b6⟩ := part (ul 1 0) (ul 1 1) (sl 3)
 obtain ⟨s2, y2, u2, l2, c1, c2, c3, c4, c5, c6⟩ := part h0 h1 (sl 4)
 obtain ⟨w, w1, w2, w3⟩ := kC l2 (s7 m)
 have e0 : (⟨#[]⟩ : ByteArray).size = 0 := rfl
 have p0 := iS 10 l0
 have p1 := iS 10 l1
 have p2 := iS 4 w1
 have lu : ∀ {l : List Int}, bU l = true → l.length ≤ 1000 := fun h => by have := gv h; omega
 have q1 : (dX 10 (sqV u0 (10 : Nat)) ++ dX 10 (sqV u1 (10 : Nat))).size = 640 := by rw [ByteArray.size_append]; omega
 refine ⟨(dX 10 (sqV u0 (10 : Nat)) ++ dX 10 (sqV u1 (10 : Nat))) ++ dX 4 (sqV w (4 : Nat)), by rw [ByteArray.size_append]; omega, ?_, ?_⟩
 ·unfold am.f
  refine Ev.bind (kQ P) (Ev.pos h (Ev.pos (by omega) ?_))
  rw [hcb]
  refine Ev.step (fun k => by simp only [am.j0]; rw [Ga (by decide)]) (Ev.bind sP ?_)
  rw [hT]
  refine Ev.pos (by omega) (Ev.bind (jr _ hr) ?_)
  refine Ev.step (f := fun k => (bz.f k c 0).bind fun t => (ba.f k t).bind fun u => am.l0 k m c [v0, v1] (qT (P.extract 768 P.size)) [u] 1) (fun k => by simp only [am.l0]; rw [Fa (by decide), w01]; simp) (Ev.bind (dS c 0 cs) (Ev.bind n1 ?_))
  refine Ev.step (f := fun k => (bz.f k c 1).bind fun t => (ba.f k t).bind fun u => am.l0 k m c [v0, v1] (qT (P.extract 768 P.size)) [R0, u] 2) (fun k => by simp only [am.l0]; rw [Fa (by decide), w11]; simp) (Ev.bind (dS c 1 cs) (Ev.bind n3 ?_))
  refine Ev.step (f := fun k => am.l1 k m c [v0, v1] (qT (P.extract 768 P.size)) [R0, R1] (⟨#[]⟩ : ByteArray) 0) (fun k => by simp only [am.l0]; rw [Ga (by decide)]) ?_
  refine jh m c [v0, v1] _ [R0, R1] _ 0 2 (by decide) _ _ s0 y0 (gP c 2) u0 _ _ 0 2 rfl w00 w20 (by decide) (by decide) rfl rfl w20 a1 a3 (dS c 2 cs) a5 (eR u0 10 (by decide) (by decide) (lu l0)) (by omega) ?_
  rw [w01, lU]
  refine jh m c [v0, v1] _ [R0, R1] _ 1 3 (by decide) _ _ s1 y1 (gP c 3) u1 _ _ 1 3 rfl w01 w21 (by decide) (by decide) rfl rfl w21 b1 b3 (dS c 3 cs) b5 (eR u1 10 (by decide) (by decide) (lu l1)) (by omega) ?_
  rw [w11]
  refine Ev.step (fun k => by simp only [am.l1]; rw [Ga (by decide)]) ?_
  exact Ev.bind c1 (Ev.bind c3 (Ev.bind (dS c 4 cs) (Ev.bind c5 (Ev.bind (lG m m32) (Ev.bind w2 (Ev.bind (eR w 4 (by decide) (by decide) (lu w1)) (Ev.pos (by omega) (Ev.now _))))))))
 ·unfold aE.f
  refine Ev.bind (iK P) (Ev.pos h (Ev.pos (by omega) ?_))
  rw [hcb]
  refine Ev.step (fun k => by simp only [aE.j0]; rw [Ga (by decide)]) (Ev.bind iP ?_)
  rw [hT]
  refine Ev.pos (by omega) (Ev.bind (ji c 0 1 (Eq.symm w01) (Eq.symm w00) cs) (Ev.bind (oe _ _ _ _ n2 n4) (Ev.bind (ji c 2 3 (Eq.symm w21) (Eq.symm w20) cs) ?_)))
  refine nm m c [v0, v1] _ [R0, R1] _ _ 0 (by decide) (by decide) _ s0 y0 (gP c 2) u0 _ _ _ (by simp) rfl (qI _ 0 hr) a2 a4 a6 (fH u0 10 (lu l0)) (fw u0 10 (by decide) (by decide) (lu l0)) (by omega) ?_
  rw [w01, lU]
  refine nm m c [v0, v1] _ [R0, R1] _ _ 1 (by decide) (by decide) _ s1 y1 (gP c 3) u1 _ _ _ (by simp) rfl (qI _ 1 hr) b2 b4 b6 (fH u1 10 (lu l1)) (fw u1 10 (by decide) (by decide) (lu l1)) (by omega) ?_
  rw [w11]
  refine Ev.step (fun k => by simp only [aE.l0]; rw [Ga (by decide)]) ?_
  exact Ev.bind c2 (Ev.bind c4 (Ev.bind (jL c 4 cs) (Ev.bind c6 (Ev.bind (mo m m32) (Ev.bind w3 (Ev.bind (fH w 4 (lu w1)) (Ev.bind (fw w 4 (by decide) (by decide) (lu w1)) (Ev.pos (by omega) (Ev.now _)))))))))
theorem o3 (P m : ByteArray) (v0 v1 : List Int) (h0 : bU v0 = true) (h1 : bU v1 = true) (hP : P.size = 800) (hT : fS P = ([v0, v1], true)) (m32 : m.size = 32) :
  ∃ C K : ByteArray, C.size = 768 ∧ K.size = 32 ∧ Ev (fun k => cM.f k P m) (C, K, true) ∧ Ev (fun k => cm.f k P m) (C, K, true) := by
 have one : ∀ (d : ByteArray) (x : UInt8), (d ++ (⟨#[x]⟩ : ByteArray)).size = d.size + 1 := fun d x => by rw [ByteArray.size_append]; rfl
 obtain ⟨h, h32, s1, i1⟩ := dW P (by omega)
 have hz : (m ++ h).size = m.size + 32 := by rw [ByteArray.size_append, h32]
 obtain ⟨c, c32, s2, i2⟩ := dW ((m ++ h) ++ (⟨#[99]⟩ : ByteArray)) (by rw [one]; omega)
 obtain ⟨q, q32, s3, i3⟩ := dW ((m ++ h) ++ (⟨#[107]⟩ : ByteArray)) (by rw [one]; omega)
 obtain ⟨C, C7, e1, e2⟩ := ly P m c v0 v1 h0 h1 hP hT m32 c32
 refine ⟨C, q, C7, q32, ?_, ?_⟩
 ·unfold cM.f
  exact Ev.bind s1 (Ev.pos (by omega) (Ev.pos (by omega) (Ev.bind s2 (Ev.bind e1 (Ev.pos rfl (Ev.bind s3 (Ev.now _)))))))
 ·unfold cm.f
  exact Ev.then i1 (Ev.pos (by omega) (Ev.pos (by omega) (Ev.then i2 (Ev.bind e2 (Ev.pos rfl (Ev.then i3 (Ev.now _)))))))
/-- What is opened of a text of the right length, bent or not: a secret all the same. -/
theorem rQ (S C P : ByteArray) (u0 u1 v0 v1 : List Int) (hu0 : bU u0 = true) (hu1 : bU u1 = true) (hv0 : bU v0 = true) (hv1 : bU v1 = true) (hP : P.size = 800) (hS : S.size = 1632) (tP : fS P = ([v0, v1], true)) (tS : fS S = ([u0, u1], true)) (eP : S.extract 768 1568 = P) (hC : C.size = 768) :
  ∃ A : ByteArray, A.size = 32 ∧ Ev (fun k => cZ.f k S C) (A, true) ∧ Ev (fun k => cu.f k S C) (A, true) := by
 obtain ⟨w, hw, so, io⟩ := qk S C u0 u1 hu0 hu1 hS tS hC
 have lw : w.length ≤ 1000 := by have := gv hw; omega
 have m32 := iS 1 hw
 have d1 : Ev (fun k => cR.f k S C) (dX 1 (sqV w (1 : Nat)), true) := by
  unfold cR.f
  exact Ev.bind so (Ev.pos rfl (Ev.bind (eR w 1 (by decide) (by decide) lw) (Ev.now _)))
 have d2 : Ev (fun k => cI.f k S C) (dX 1 (sqV w (1 : Nat)), true) := by
  unfold cI.f
  exact Ev.bind io (Ev.pos rfl (Ev.bind (fH w 1 lw) (Ev.bind (fw w 1 (by decide) (by decide) lw) (Ev.now _))))
 generalize dX 1 (sqV w (1 : Nat)) = m at m32 d1 d2
 obtain ⟨A, B, hA, hB, h1, h2⟩ := o3 P m v0 v1 hv0 hv1 hP tP m32
 rw [← eP] at h1 h2
 have hz : (S.size : Int) = 1632 := by omega
 have hw : wrap64 ((S.size : Int) - 32) = 1600 := by rw [hz, w64 (by decide) (by decide)]; rfl
 have hx : (S.extract 1600 S.size).size = 32 := by rw [ByteArray.size_extract]; omega
 obtain ⟨d, d32, g1, g2⟩ := dW (S.extract 1600 S.size ++ C) (by rw [ByteArray.size_append]; omega)
 unfold cZ.f cu.f
 rw [hw]
 by_cases he : A.toList = C.toList
 ·exact ⟨B, hB, Ev.bind d1 (Ev.pos rfl (Ev.pos (by decide) (Ev.pos (by omega) (Ev.bind h1 (Ev.pos rfl (Ev.pos he (Ev.now _))))))), Ev.bind d2 (Ev.pos rfl (Ev.pos (by decide) (Ev.pos (by omega) (Ev.bind h2 (Ev.pos rfl (Ev.pos he (Ev.now _)))))))⟩
 ·refine ⟨d, d32, ?_, ?_⟩
  ·exact Ev.bind d1 (Ev.pos rfl (Ev.pos (by decide) (Ev.pos (by omega) (Ev.bind h1 (Ev.pos rfl (Ev.neg he (Ev.pos (by decide) (Ev.pos (by omega) (Ev.pos (by show (S.extract 1600 S.size).size + C.size ≤ _; omega) (Ev.bind g1 (Ev.now _)))))))))))
  ·exact Ev.bind d2 (Ev.pos rfl (Ev.pos (by decide) (Ev.pos (by omega) (Ev.bind h2 (Ev.pos rfl (Ev.neg he (Ev.pos (by omega) (Ev.pos (by omega) (Ev.then g2 (Ev.now _))))))))))
/-- A text of another length is not opened; one of another length is not hidden. -/
theorem qM (S C : ByteArray) (hS : S.size = 1632) (hC : C.size ≠ 768) : Ev (fun k => cu.f k S C) (⟨#[]⟩, false) := by
 have hb : ((C.size : Int) != 768) = true := bne_iff_ne.mpr (by omega)
 have io : Ev (fun k => bb.f k S C) ([], false) := by
  unfold bb.f
  rw [hb]
  exact Ev.pos (by omega) (Ev.step (f := fun _ => some _) (fun k => by simp only [bb.j0]; rw [Fa trivial]) (Ev.now _))
 unfold cu.f cI.f
 exact Ev.bind (Ev.bind io (Ev.neg (by simp) (Ev.now _))) (Ev.neg (by simp) (Ev.now _))
theorem nW (P m c : ByteArray) (v0 v1 : List Int) (hP : P.size = 800) (hT : fS P = ([v0, v1], true)) (hm : m.size ≠ 32) : Ev (fun k => aE.f k P m c) (⟨#[]⟩, false) := by
 have h : fZ P = true := by unfold fZ; rw [Fa (by omega), hT]
 unfold aE.f
 exact Ev.bind (iK P) (Ev.pos h (Ev.neg (by omega) (Ev.step (f := fun _ => some _) (fun k => by simp only [aE.j0]; rw [Fa trivial]) (Ev.now _))))
theorem oP (S C m : ByteArray) (w : List Int) (hm : m.size ≠ 32) (io : Ev (fun k => bb.f k S C) (w, true)) : Ev (fun k => bW.f k S m C) (-1) := by
 have hb : ((m.size : Int) != 32) = true := bne_iff_ne.mpr (by omega)
 unfold bW.f
 refine Ev.bind io (Ev.pos rfl ?_)
 rw [hb]
 exact Ev.step (f := fun _ => some _) (fun k => by simp only [bW.j0]; rw [Fa trivial]) (Ev.now _)
theorem pe (s : ByteArray) (p : List Int) (hs : s.size = 768) (hp : p.length = 12) (h : ∀ x ∈ p, 0 ≤ x ∧ x < 10000) : ∃ t : ByteArray, t.size = 768 ∧ fc.f s p = some t := by
 unfold fc.f
 rw [Ga (by omega)]
 have g : ∀ i : Nat, i < 12 → 0 ≤ rd p (i : Int) := fun i hi => by
  have e : rd p (i : Int) = p[i]'(by omega) := by simp [rd, hp, hi]
  rw [e]
  exact (h _ (List.getElem_mem _)).1
 rw [Fa ⟨by omega, by omega, g 0 (by decide), g 1 (by decide)⟩]
 refine ⟨_, ?_, rfl⟩
 rw [strOfNums_size, List.length_set, dH, hs]
end Go.Proofs.YtmiackbomcjboaaGreatDoor.Pure
