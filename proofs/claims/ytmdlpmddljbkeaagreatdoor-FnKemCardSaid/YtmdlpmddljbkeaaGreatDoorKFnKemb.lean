/- Plain laws that the law FnKem rests on. -/
import Derived.Test.YtmdlpmddljbkeaaGreatDoorKFnKem
namespace Go.Proofs.YtmdlpmddljbkeaaGreatDoor.Pure
open Go.RowKit YtmdlpmddljbkeaaGreatDoorW.PrintWords YtmdlpmddljbkeaaGreatDoorW.PrintLast YtmdlpmddljbkeaaGreatDoorW.PrintMore YtmdlpmddljbkeaaGreatDoor.P YtmdlpmddljbkeaaGreatDoor.Kit
set_option linter.unusedVariables false
set_option linter.unusedSimpArgs false

/-- The words while hU i is being made. -/
def jI (s : ByteArray) (i : Nat) (x : Int) : List Int := gJ s i ++ x :: List.replicate (63 - i) 0
theorem rt (s : ByteArray) (i : Nat) (x : Int) : rd (jI s i x) (i : Int) = x := by
 rw [kA, jI, List.getD_eq_getElem?_getD, List.getElem?_append_right (by rw [fL]; omega), fL]
 simp
theorem qU (s : ByteArray) (i : Nat) (x y : Int) : (jI s i x).set i y = jI s i y := by
 unfold jI
 rw [List.set_append_right _ _ (by rw [fL]; omega), fL]
 simp
theorem gW (s : ByteArray) (m i : Nat) (x y : Int) (hm : m / 4 = i) (h : fp s m = jI s i x) (hx : 0 ≤ x) (hx2 : x < 16777216) (hy : y = x * 256 + bt s (m : Int)) : fp s (m + 1) = jI s i y := by
 have hb := dM s (m : Int)
 simp only [fp]
 rw [hm, h, rt, qU, sh 8 _ _ (W32.mod _) (by omega) (W32.mod _) (by omega), hy]
 congr 1
 omega
theorem o9 (s : ByteArray) (i : Nat) (hi : i < 16) (h : fp s (4 * i) = jI s i 0) : fp s (4 * (i + 1)) = gJ s (i + 1) ++ List.replicate (63 - i) 0 := by
 have b0 := dM s ((4 * i : Nat) : Int)
 have b1 := dM s ((4 * i + 1 : Nat) : Int)
 have b2 := dM s ((4 * i + 2 : Nat) : Int)
 have b3 := dM s ((4 * i + 3 : Nat) : Int)
 have h1 := gW s (4 * i) i 0 (bt s ((4 * i : Nat) : Int)) (by omega) h (by omega) (by omega) (by omega)
 have h2 := gW s (4 * i + 1) i _ (bt s ((4 * i : Nat) : Int) * 256 + bt s ((4 * i + 1 : Nat) : Int)) (by omega) h1 (by omega) (by omega) rfl
 have h3 := gW s (4 * i + 2) i _ ((bt s ((4 * i : Nat) : Int) * 256 + bt s ((4 * i + 1 : Nat) : Int)) * 256 + bt s ((4 * i + 2 : Nat) : Int)) (by omega) h2 (by omega) (by omega) rfl
 have h4 := gW s (4 * i + 3) i _ (hU s i) (by omega) h3 (by omega) (by omega) (by unfold hU; omega)
 rw [show 4 * (i + 1) = 4 * i + 3 + 1 by omega, h4, jI, lR]
 simp
theorem jO (s : ByteArray) : ∀ i, i ≤ 16 → fp s (4 * i) = gJ s i ++ List.replicate (64 - i) 0
 | 0, _ => rfl
 | i + 1, h => by
  have ih := jO s i (by omega)
  rw [o9 s i (by omega) (by rw [ih, jI, show 64 - i = (63 - i) + 1 by omega, List.replicate_succ]), show 64 - (i + 1) = 63 - i by omega]
theorem pI (l : List Int) (t : Nat) : W32 (jf l t) := W32.mod _
theorem mS (l : List Int) (t : Nat) (v : Int) (h : t < l.length) : (l.set t v).take (t + 1) = l.take t ++ [v] := by
 rw [List.take_add_one, List.take_set_of_le (Ca _)]
 simp [h]
theorem le (s : ByteArray) (j : Nat) (h : j < 48) : (eK s (j + 1)).take (16 + (j + 1)) = (eK s j).take (16 + j) ++ [jf (eK s j) (16 + j)] :=
 mS _ (16 + j) _ (by rw [er]; omega)
theorem lc (s : ByteArray) : ∀ j, j ≤ 48 → ∀ x ∈ (eK s j).take (16 + j), W32 x
 | 0, _ => by
  intro x hx
  have := jO s 16 (Ca _)
  simp only [eK] at hx
  rw [show 64 = 4 * 16 from rfl, this, List.take_append_of_le_length (by rw [fL]; omega)] at hx
  exact td s 16 x (List.mem_of_mem_take hx)
 | j + 1, h => by
  intro x hx
  rw [le s j (by omega), List.mem_append] at hx
  rcases hx with hx | hx
  ·exact lc s j (by omega) x hx
  ·simp at hx; subst hx; exact pI _ _
theorem kf (l : List Int) (t i : Nat) (h : i < t) : rd (l.take t) (i : Int) = rd l (i : Int) := by
 rw [kA, kA]
 simp [List.getElem?_take, h]
theorem uy (s : ByteArray) (j i : Nat) (hj : j ≤ 48) (hi : i < 16 + j) : W32 (rd (eK s j) (i : Int)) := by
 have hl := er s j
 rw [← kf _ (16 + j) i hi, dw _ _ (by rw [List.length_take, hl]; omega)]
 exact lc s j hj _ (List.getElem_mem _)
theorem uj (s : ByteArray) (st ks : List Int) (r : List Int) (hst : st.length = 8) (h : Ev (fun k => ac.l1 k st ks (b8.v s) st 0) r) : Ev (fun k => ac.l0 k st ks (gJ s 16) 16) r := by
 have h0 : gJ s 16 = (eK s 0).take 16 := by
  simp only [eK]
  rw [show 64 = 4 * 16 from rfl, jO s 16 (Ca _), List.take_append_of_le_length (by rw [fL]; omega), List.take_of_length_le (by rw [fL]; omega)]
 rw [h0]
 refine Ev.up (g := fun j k => ac.l0 k st ks ((eK s j).take (16 + j)) ((16 + j : Nat) : Int)) 48 ?_ ?_ 0 (Nat.zero_le _)
 ·intro j hj hh
  refine Ev.step (fun k => ?_) hh
  have hl : ((eK s j).take (16 + j)).length = 16 + j := by rw [List.length_take, er]; omega
  have e1 : wrap64 (((16 + j : Nat) : Int) - 2) = ((14 + j : Nat) : Int) := by rw [w64 (by omega) (by omega)]; omega
  have e2 : wrap64 (((16 + j : Nat) : Int) - 7) = ((9 + j : Nat) : Int) := by rw [w64 (by omega) (by omega)]; omega
  have e3 : wrap64 (((16 + j : Nat) : Int) - 15) = ((1 + j : Nat) : Int) := by rw [w64 (by omega) (by omega)]; omega
  have e4 : wrap64 (((16 + j : Nat) : Int) - 16) = ((j : Nat) : Int) := by rw [w64 (by omega) (by omega)]; omega
  have e5 : wrap64 (((16 + j : Nat) : Int) + 1) = ((16 + (j + 1) : Nat) : Int) := by rw [w64 (by omega) (by omega)]; omega
  simp only [ac.l0]
  rw [e1, e2, e3, e4, e5, hl, kf _ _ _ (by omega), kf _ _ _ (by omega), kf _ _ _ (by omega), kf _ _ _ (by omega)]
  rw [Fa (by omega), Fa (by omega), Fa (by omega), uO _ (uy s j _ (by omega) (by omega))]
  simp only [Option.bind_some]
  rw [Fa (by omega), Fa (by omega), Fa (by omega), Fa (by omega), uM _ (uy s j _ (by omega) (by omega))]
  simp only [Option.bind_some]
  rw [Fa (by omega), Fa (by omega), Fa (by omega), le s j hj]
  congr 2
  unfold jf
  rw [show 16 + j - 2 = 14 + j by omega, show 16 + j - 7 = 9 + j by omega, show 16 + j - 15 = 1 + j by omega, show 16 + j - 16 = j by omega]
  simp only [List.append_cancel_left_eq, List.cons.injEq, and_true]
  omega
 ·refine Ev.step (fun k => ?_) h
  have hl := er s 48
  simp only [ac.l0, Option.bind_some]
  rw [Ga (by omega), Fa (by simp; omega), List.take_of_length_le (by omega)]
  rfl
theorem wl0 : wrap64 0 = 0 := w64 (by decide) (by decide)
theorem wl1 : wrap64 1 = 1 := w64 (by decide) (by decide)
theorem wl2 : wrap64 2 = 2 := w64 (by decide) (by decide)
theorem wl3 : wrap64 3 = 3 := w64 (by decide) (by decide)
theorem wl4 : wrap64 4 = 4 := w64 (by decide) (by decide)
theorem wl5 : wrap64 5 = 5 := w64 (by decide) (by decide)
theorem wl6 : wrap64 6 = 6 := w64 (by decide) (by decide)
theorem wl7 : wrap64 7 = 7 := w64 (by decide) (by decide)
theorem wl8 : wrap64 8 = 8 := w64 (by decide) (by decide)
theorem rX (k : Nat) (x0 x1 x7 : List Int) (a b c d e f g h t u v : Int) : ac.l2 (k + 1 + 1 + 1 + 1 + 1 + 1 + 1 + 1) x0 x1 x7 [a, b, c, d, e, f, g, h] t u v 7 = ac.l1 k x0 x1 x7 [(u + v) % 4294967296, a, b, c, (d + u) % 4294967296, e, f, g] (wrap64 (t + 1)) := by
 simp [ac.l2, wl0, wl1, wl2, wl3, wl4, wl5, wl6, wl7, wl8, rd]
theorem rh (k : Nat) (a b c d e f g h a' b' c' d' e' f' g' h' : Int) : ac.l3 (k + 1 + 1 + 1 + 1 + 1 + 1 + 1 + 1 + 1) [a, b, c, d, e, f, g, h] [a', b', c', d', e', f', g', h'] [] 0 = some [(a + a') % 4294967296, (b + b') % 4294967296, (c + c') % 4294967296, (d + d') % 4294967296, (e + e') % 4294967296, (f + f') % 4294967296, (g + g') % 4294967296, (h + h') % 4294967296] := by
 simp [ac.l3, wl0, wl1, wl2, wl3, wl4, wl5, wl6, wl7, wl8, rd]
theorem mL (a b c d e f g h a' b' c' d' e' f' g' h' : Int) : i9 [a, b, c, d, e, f, g, h] [a', b', c', d', e', f', g', h'] 8 = [(a' + a) % 4294967296, (b' + b) % 4294967296, (c' + c) % 4294967296, (d' + d) % 4294967296, (e' + e) % 4294967296, (f' + f) % 4294967296, (g' + g) % 4294967296, (h' + h) % 4294967296] := rfl
/-- et words. -/
def et (l : List Int) : Prop := l.length = 8 ∧ ∀ x ∈ l, W32 x
theorem et.cases {l : List Int} (h : et l) : ∃ a b c d e f g i, l = [a, b, c, d, e, f, g, i] ∧ W32 a ∧ W32 b ∧ W32 c ∧ W32 d ∧ W32 e ∧ W32 f ∧ W32 g ∧ W32 i := by
 obtain ⟨hl, hw⟩ := h
 match l, hl with
 | [a, b, c, d, e, f, g, i], _ => exact ⟨a, b, c, d, e, f, g, i, rfl, hw _ (by simp), hw _ (by simp), hw _ (by simp), hw _ (by simp), hw _ (by simp), hw _ (by simp), hw _ (by simp), hw _ (by simp)⟩
theorem et.mk' {a b c d e f g i : Int} (h1 : W32 a) (h2 : W32 b) (h3 : W32 c) (h4 : W32 d) (h5 : W32 e) (h6 : W32 f) (h7 : W32 g) (h8 : W32 i) : et [a, b, c, d, e, f, g, i] := by
 refine ⟨rfl, fun x hx => ?_⟩
 simp only [List.mem_cons, List.not_mem_nil, or_false] at hx
 rcases hx with rfl | rfl | rfl | rfl | rfl | rfl | rfl | rfl <;> assumption
theorem qV {k w : Int} {l : List Int} (h : et l) : et (rnd k w l) := by
 obtain ⟨a, b, c, d, e, f, g, i, rfl, h1, h2, h3, h4, h5, h6, h7, h8⟩ := h.cases
 exact et.mk' (W32.mod _) h1 h2 h3 (W32.mod _) h5 h6 h7
theorem iG {ws st : List Int} (h : et st) : ∀ t, et (rounds ws st t)
 | 0 => h
 | t + 1 => qV (iG h t)
theorem sT {st v : List Int} (hst : et st) (hv : et v) : ∃ k0, ∀ k, k0 ≤ k → ac.l3 k st v [] 0 = some (i9 st v 8) := by
 obtain ⟨a, b, c, d, e, f, g, i, rfl, _⟩ := hv.cases
 obtain ⟨a', b', c', d', e', f', g', i', rfl, _⟩ := hst.cases
 refine ⟨9, fun k hk => ?_⟩
 obtain ⟨k', rfl⟩ : ∃ k', k = k' + 1 + 1 + 1 + 1 + 1 + 1 + 1 + 1 + 1 := ⟨k - 9, by omega⟩
 rw [rh, mL]
 simp only [Int.add_comm]
theorem sU (ws : List Int) {st v : List Int} (hst : et st) (hv : et v) : ∃ k0, ∀ k, k0 ≤ k → ac.l1 k st roundKeys ws v ((64 : Nat) : Int) = some (i9 st v 8) := by
 obtain ⟨k0, h⟩ := sT hst hv
 refine ⟨k0 + 1, fun k hk => ?_⟩
 obtain ⟨k', rfl⟩ : ∃ k', k = k' + 1 := ⟨k - 1, by omega⟩
 simp only [ac.l1]
 rw [Ga (by decide)]
 exact h k' (by omega)
theorem uN (ws : List Int) (st : List Int) (hst : et st) (hwl : ws.length = 64) (R : Nat → List Int) (h0 : R 0 = st) (hs : ∀ t, R (t + 1) = rnd (rd roundKeys (t : Int)) (rd ws (t : Int)) (R t)) (he : ∀ t, et (R t)) : Ev (fun k => ac.l1 k st roundKeys ws st 0) (i9 st (R 64) 8) := by
 have hkl : roundKeys.length = 64 := rfl
 have key : Ev (fun k => ac.l1 k st roundKeys ws (R 0) ((0 : Nat) : Int)) (i9 st (R 64) 8) := by
  refine Ev.up (g := fun t k => ac.l1 k st roundKeys ws (R t) (t : Int)) 64 ?_ ?_ 0 (Nat.zero_le _)
  ·intro t ht hh
   obtain ⟨a, b, c, d, e, f, g, i, hv, h1, h2, h3, h4, h5, h6, h7, h8⟩ := (he t).cases
   obtain ⟨K, hK⟩ := hh
   refine ⟨K + 9, fun k hk => ?_⟩
   obtain ⟨k', rfl⟩ : ∃ k', k = k' + 1 + 1 + 1 + 1 + 1 + 1 + 1 + 1 + 1 := ⟨k - 9, by omega⟩
   have hgo := hK k' (by omega)
   simp only [ac.l1]
   rw [hv]
   rw [Fa (by omega), Fa (by simp), Fa (by simp), Fa (by simp), Fa (by simp), show rd [a, b, c, d, e, f, g, i] 4 = e from rfl, show rd [a, b, c, d, e, f, g, i] 0 = a from rfl, show rd [a, b, c, d, e, f, g, i] 5 = f from rfl, show rd [a, b, c, d, e, f, g, i] 6 = g from rfl, show rd [a, b, c, d, e, f, g, i] 7 = i from rfl, show rd [a, b, c, d, e, f, g, i] 1 = b from rfl, show rd [a, b, c, d, e, f, g, i] 2 = c from rfl, S_e e h5]
   simp only [Option.bind_some]
   rw [Fa (by omega), Fa (by omega), Fa (by omega), Fa (by simp), Fa (by simp), Fa (by simp), S_a a h1]
   simp only [Option.bind_some]
   rw [rX, dz t (by omega)]
   rw [← hgo, hs t, hv]
   simp only [rnd]
   rw [uB e h5, show (4294967295 - e) % 4294967296 = 4294967295 - e by have := h5.1; have := h5.2; omega]
   congr 1
   simp only [List.cons.injEq, and_true, true_and]
   constructor <;> omega
  ·exact sU ws hst (he 64)
 rw [h0] at key
 exact key
theorem px (st : List Int) (s : ByteArray) (R : Nat → List Int) (hR : R = rounds (b8.v s) st) : cB.v st s = i9 st (R 64) 8 := by
 rw [hR]; rfl
theorem ue (s : ByteArray) (st : List Int) (hst : et st) : Ev (fun k => ac.l1 k st roundKeys (b8.v s) st 0) (cB.v st s) := by
 obtain ⟨R, hR⟩ : ∃ R, R = rounds (b8.v s) st := ⟨_, rfl⟩
 rw [px st s R hR]
 exact uN _ st hst (er s 48) R (by rw [hR]; rfl) (fun t => by rw [hR]; rfl) (fun t => by rw [hR]; exact iG hst t)
/-- The reference's round is the program's. -/
theorem iw (s : ByteArray) (st : List Int) (hst : et st) (hs : s.size = 64) : Ev (fun k => ac.f k st roundKeys s) (cB.v st s) := by
 unfold ac.f
 exact Ev.bind (ie s 16 (by omega) (by decide)) (uj s st roundKeys _ hst.1 (ue s st hst))
theorem t7 {st v : List Int} (hst : et st) (hv : et v) : et (i9 st v 8) := by
 obtain ⟨a, b, c, d, e, f, g, i, rfl, _⟩ := hv.cases
 obtain ⟨a', b', c', d', e', f', g', i', rfl, _⟩ := hst.cases
 rw [mL]
 exact et.mk' (W32.mod _) (W32.mod _) (W32.mod _) (W32.mod _) (W32.mod _) (W32.mod _) (W32.mod _) (W32.mod _)
theorem mg {st : List Int} {s : ByteArray} (h : et st) : et (cB.v st s) := t7 h (iG h 64)
theorem il (a b : List Int) : strOfNums a ++ strOfNums b = strOfNums (a ++ b) := by
 apply eM
 simp [strOfNums, ByteArray.data_append]
theorem mU (xs : List Int) (a b : Nat) : (strOfNums xs).extract a b = strOfNums ((xs.drop a).take (b - a)) := by
 apply eM
 rw [ByteArray.data_extract]
 simp [strOfNums, List.map_drop, List.map_take]
theorem qN (s : ByteArray) : (⟨#[]⟩ : ByteArray) ++ s = s := by
 apply eM
 simp [ByteArray.data_append]
theorem re (xs : List Int) (j : Nat) (hj : j < xs.length) (h : 0 ≤ xs[j] ∧ xs[j] ≤ 255) : bt (strOfNums xs) (j : Int) = xs[j] := by
 have hs : j < (strOfNums xs).size := by rw [strOfNums_size]; exact hj
 rw [← cQ (strOfNums xs) (j : Int) (by simpa using hs)]
 simp only [Int.toNat_natCast]
 rw [jF xs j hs, UInt8.toNat_ofNat']
 omega
def d7 (x : Int) : List Int := [(x / 16777216) % 256, (x / 65536) % 256, (x / 256) % 256, x % 256]
def dK (l : List Int) : List Int := l.flatMap d7
theorem jT (l : List Int) : (dK l).length = 4 * l.length := by
 induction l with
 | nil => rfl
 | cons x l ih => simp only [dK, List.flatMap_cons, List.length_append, List.length_cons] at ih ⊢; rw [ih]; simp [d7]; omega
theorem kW (l : List Int) (i : Nat) (h : i < l.length) : dK (l.take (i + 1)) = dK (l.take i) ++ d7 l[i] := by
 show (l.take (i + 1)).flatMap d7 = (l.take i).flatMap d7 ++ d7 l[i]
 rw [← fY l i h, List.flatMap_append, List.flatMap_singleton]
theorem f8 (l : List Int) (hl : l.length ≤ 1000000) (hw : ∀ x ∈ l, W32 x) : Ev (fun k => bk.f k l) (strOfNums (dK l)) := by
 refine Ev.up (g := fun i k => bk.l0 k l (dK (l.take i)) (i : Int)) l.length ?_ ?_ 0 (Nat.zero_le _)
 ·intro i hi hh
  refine Ev.step (fun k => ?_) hh
  have hx := hw l[i] (List.getElem_mem hi)
  simp only [bk.l0, Option.bind_some]
  rw [Fa (by omega), Fa (by omega), Fa (by rw [jT, List.length_take]; simp; omega), dz i (by omega), kW l i hi, dw l i hi]
  congr 2
  unfold d7
  rw [Int.tdiv_eq_ediv_of_nonneg hx.1, Int.tdiv_eq_ediv_of_nonneg hx.1, Int.tdiv_eq_ediv_of_nonneg hx.1, Int.tmod_eq_emod_of_nonneg hx.1]
  have h1 := hx.1
  have h2 := hx.2
  generalize l[i] = x at h1 h2 ⊢
  simp only [List.cons.injEq, and_true]
  refine ⟨by omega, by omega, by omega, by omega⟩
 ·refine Ev.step (f := fun _ => some (strOfNums (dK l))) (fun k => ?_) (Ev.now _)
  simp only [bk.l0]
  rw [Ga (by omega), List.take_length]
theorem jE (l : List Int) (hl : l.length = 8) : ∀ n, n ≤ 8 → bX.cat l n = some (strOfNums (dK (l.take n)))
 | 0, _ => rfl
 | n + 1, h => by
  simp only [bX.cat]
  rw [jE l hl n (by omega)]
  simp only [Option.bind_some]
  show (some (strOfNums (d7 (rd l (n : Int))))).bind _ = _
  simp only [Option.bind_some]
  rw [Fa (by rw [strOfNums_size, strOfNums_size, jT, List.length_take]; simp [d7]; omega), dw l n (by omega), il, kW l n (by omega)]
theorem nK (l : List Int) (hl : l.length = 8) : bX.f l = some (strOfNums (dK l)) := by
 unfold bX.f
 rw [jE l hl 8 (Ca _), List.take_of_length_le (by omega)]
theorem pc (x : Int) : ∀ y ∈ d7 x, 0 ≤ y ∧ y ≤ 255 := by
 intro y hy
 simp only [d7, List.mem_cons, List.not_mem_nil, or_false] at hy
 rcases hy with rfl | rfl | rfl | rfl <;> omega
theorem nP (l : List Int) : ∀ y ∈ dK l, 0 ≤ y ∧ y ≤ 255 := by
 intro y hy
 obtain ⟨x, _, hx⟩ := List.mem_flatMap.mp hy
 exact pc x y hx
theorem oW {l : List Int} (h : et l) : gJ (strOfNums (dK l)) 8 = l := by
 obtain ⟨a, b, c, d, e, f, g, i, rfl, h1, h2, h3, h4, h5, h6, h7, h8⟩ := h.cases
 have hb : ∀ (j : Nat) (hj : j < (dK [a, b, c, d, e, f, g, i]).length), bt (strOfNums (dK [a, b, c, d, e, f, g, i])) (j : Int) = (dK [a, b, c, d, e, f, g, i])[j] :=
  fun j hj => re _ j hj (nP _ _ (List.getElem_mem hj))
 have hw : ∀ (t : Nat) (x : Int), W32 x → (∀ q, q < 4 → bt (strOfNums (dK [a, b, c, d, e, f, g, i])) ((4 * t + q : Nat) : Int) = (d7 x).getD q 0) → hU (strOfNums (dK [a, b, c, d, e, f, g, i])) t = x := by
  intro t x hx hq
  unfold hU
  have q0 := hq 0 (by decide)
  have q1 := hq 1 (by decide)
  have q2 := hq 2 (by decide)
  have q3 := hq 3 (by decide)
  simp only [Nat.add_zero] at q0
  rw [q0, q1, q2, q3]
  simp only [d7, List.getD_cons_zero, List.getD_cons_succ]
  have := hx.1
  have := hx.2
  omega
 have h4' : ∀ (t q : Nat) (x : Int), (dK [a, b, c, d, e, f, g, i])[4 * t + q]? = some ((d7 x).getD q 0) → bt (strOfNums (dK [a, b, c, d, e, f, g, i])) ((4 * t + q : Nat) : Int) = (d7 x).getD q 0 := by
  intro t q x hx
  obtain ⟨hlt, he⟩ := List.getElem?_eq_some_iff.mp hx
  rw [hb _ hlt, he]
 have all4 : ∀ {p : Nat → Prop}, p 0 → p 1 → p 2 → p 3 → ∀ q, q < 4 → p q := by
  intro p p0 p1 p2 p3 q hq
  match q, hq with
  | 0, _ => exact p0
  | 1, _ => exact p1
  | 2, _ => exact p2
  | 3, _ => exact p3
 show [hU _ 0, hU _ 1, hU _ 2, hU _ 3, hU _ 4, hU _ 5, hU _ 6, hU _ 7] = _
 rw [hw 0 a h1 (all4 (h4' 0 0 a rfl) (h4' 0 1 a rfl) (h4' 0 2 a rfl) (h4' 0 3 a rfl)), hw 1 b h2 (all4 (h4' 1 0 b rfl) (h4' 1 1 b rfl) (h4' 1 2 b rfl) (h4' 1 3 b rfl)), hw 2 c h3 (all4 (h4' 2 0 c rfl) (h4' 2 1 c rfl) (h4' 2 2 c rfl) (h4' 2 3 c rfl)), hw 3 d h4 (all4 (h4' 3 0 d rfl) (h4' 3 1 d rfl) (h4' 3 2 d rfl) (h4' 3 3 d rfl)), hw 4 e h5 (all4 (h4' 4 0 e rfl) (h4' 4 1 e rfl) (h4' 4 2 e rfl) (h4' 4 3 e rfl)), hw 5 f h6 (all4 (h4' 5 0 f rfl) (h4' 5 1 f rfl) (h4' 5 2 f rfl) (h4' 5 3 f rfl)), hw 6 g h7 (all4 (h4' 6 0 g rfl) (h4' 6 1 g rfl) (h4' 6 2 g rfl) (h4' 6 3 g rfl)), hw 7 i h8 (all4 (h4' 7 0 i rfl) (h4' 7 1 i rfl) (h4' 7 2 i rfl) (h4' 7 3 i rfl))]
/-! the blocks -/
theorem dv : et bU.v := by
 refine ⟨rfl, ?_⟩
 intro x hx
 simp only [bU.v, List.mem_cons, List.not_mem_nil, or_false] at hx
 unfold W32
 omega
theorem el {st : List Int} (h : et st) (s : ByteArray) : ∀ n, et (gM st s n)
 | 0 => h
 | n + 1 => mg (el h s n)
theorem kJ (s e : ByteArray) (a b : Nat) (h : b ≤ s.size) : (s ++ e).extract a b = s.extract a b := by
 rw [ByteArray.extract_append, Nat.sub_eq_zero_of_le h]
 apply eM
 simp [ByteArray.data_append, ByteArray.data_extract]
theorem qc (st : List Int) (s e : ByteArray) : ∀ n, 64 * n ≤ s.size → gM st (s ++ e) n = gM st s n
 | 0, _ => rfl
 | n + 1, h => by
  simp only [gM]
  rw [qc st s e n (by omega), kJ s e _ _ (by omega)]
theorem rF (s e : ByteArray) (T : List Int) (n j : Nat) (hn : 64 * n ≤ s.size) (hT : s.extract (64 * n) s.size ++ e = strOfNums T) : (s ++ e).extract (64 * (n + j)) (64 * (n + j) + 64) = strOfNums ((T.drop (64 * j)).take 64) := by
 have hP : (s.extract 0 (64 * n)).size = 64 * n := by rw [ByteArray.size_extract]; omega
 have hs : s = s.extract 0 (64 * n) ++ s.extract (64 * n) s.size := by
  rw [ByteArray.extract_append_extract]
  apply eM
  rw [ByteArray.data_extract]
  simp [Nat.min_eq_left, Nat.max_eq_right hn]
  exact (List.take_of_length_le (by rw [Array.length_toList]; exact Ca _)).symm
 have h1 : s ++ e = s.extract 0 (64 * n) ++ strOfNums T := by
  rw [← hT, ← ByteArray.append_assoc, ← hs]
 have h2 := ByteArray.extract_append_size_add (a := s.extract 0 (64 * n)) (b := strOfNums T) (i := 64 * j) (j := 64 * j + 64)
 rw [hP] at h2
 rw [h1, show 64 * (n + j) = 64 * n + 64 * j by omega, show 64 * n + 64 * j + 64 = 64 * n + (64 * j + 64) by omega, h2, mU]
 congr 2
 omega
theorem lf (s e : ByteArray) (T : List Int) (st : List Int) (hst : et st) (n : Nat) (hn : 64 * n ≤ s.size) (hT : s.extract (64 * n) s.size ++ e = strOfNums T) : ∀ j, 64 * j ≤ T.length → Ev (fun k => eZ k roundKeys T (gM st s n) j) (gM st (s ++ e) (n + j))
 | 0, _ => by
  rw [Nat.add_zero, qc st s e n hn]
  exact Ev.now _
 | j + 1, h => by
  have ih := lf s e T st hst n hn hT j (by omega)
  simp only [eZ]
  refine Ev.bind ih ?_
  rw [show n + (j + 1) = n + j + 1 by omega]
  simp only [gM]
  rw [rF s e T n j hn hT]
  exact iw _ _ (el hst _ _) (by rw [strOfNums_size, List.length_take, List.length_drop]; omega)
theorem gE (x : Int) (k : Nat) (h0 : 0 ≤ sh8 x k) (h1 : sh8 x k ≤ 4611686018427387904) : sh8 x (k + 1) = sh8 x k / 256 := by
 simp only [sh8]
 rw [Int.tdiv_eq_ediv_of_nonneg h0, w64 (by omega) (by omega)]
theorem pG (x : Int) (h0 : 0 ≤ x) (h1 : x ≤ 4611686018427387904) : om x 8 = d7 ((x / 4294967296) % 4294967296) ++ d7 (x % 4294967296) := by
 have y0 : sh8 x 0 = x := rfl
 have y1 := gE x 0 (by rw [y0]; omega) (by rw [y0]; omega)
 rw [y0] at y1
 have y2 := gE x 1 (by rw [y1]; omega) (by rw [y1]; omega)
 rw [y1] at y2
 have y3 := gE x 2 (by rw [y2]; omega) (by rw [y2]; omega)
 rw [y2] at y3
 have y4 := gE x 3 (by rw [y3]; omega) (by rw [y3]; omega)
 rw [y3] at y4
 have y5 := gE x 4 (by rw [y4]; omega) (by rw [y4]; omega)
 rw [y4] at y5
 have y6 := gE x 5 (by rw [y5]; omega) (by rw [y5]; omega)
 rw [y5] at y6
 have y7 := gE x 6 (by rw [y6]; omega) (by rw [y6]; omega)
 rw [y6] at y7
 have e : om x 8 = [Int.tmod (sh8 x 7) 256 % 256, Int.tmod (sh8 x 6) 256 % 256, Int.tmod (sh8 x 5) 256 % 256, Int.tmod (sh8 x 4) 256 % 256, Int.tmod (sh8 x 3) 256 % 256, Int.tmod (sh8 x 2) 256 % 256, Int.tmod (sh8 x 1) 256 % 256, Int.tmod (sh8 x 0) 256 % 256] := by
  simp [om]
 rw [e, y7, y6, y5, y4, y3, y2, y1, y0]
 rw [Int.tmod_eq_emod_of_nonneg (by omega), Int.tmod_eq_emod_of_nonneg (by omega), Int.tmod_eq_emod_of_nonneg (by omega), Int.tmod_eq_emod_of_nonneg (by omega), Int.tmod_eq_emod_of_nonneg (by omega), Int.tmod_eq_emod_of_nonneg (by omega), Int.tmod_eq_emod_of_nonneg (by omega), Int.tmod_eq_emod_of_nonneg (by omega)]
 simp only [d7, List.cons_append, List.nil_append, List.cons.injEq, and_true]
 refine ⟨by omega, by omega, by omega, by omega, by omega, by omega, by omega, by omega⟩
theorem qR (c : Nat) (rest : ByteArray) (hr : rest.size = c % 64) (hc : c ≤ 1000000000) : ∃ e, eO.f (c : Int) = some e ∧ e.size ≤ 200 ∧ rest ++ e = strOfNums (g5 rest (c : Int) 8) := by
 have ez : Int.tmod (wrap64 (119 - (Int.tmod (c : Int) 64))) 64 = ((hJ rest : Nat) : Int) := by
  have h1 : Int.tmod (c : Int) 64 = (c : Int) % 64 := Int.tmod_eq_emod_of_nonneg (by omega)
  rw [h1, w64 (by omega) (by omega), Int.tmod_eq_emod_of_nonneg (by omega)]
  unfold hJ
  omega
 have hp : hJ rest < 64 := Nat.mod_lt _ (by decide)
 have e8 : wrap64 (8 * (c : Int)) = 8 * (c : Int) := w64 (by omega) (by omega)
 have hz : fm.f ((hJ rest : Nat) : Int) = some (strOfNums (List.replicate (hJ rest) 0)) := by
  unfold fm.f
  rw [Fa (by omega), Int.toNat_natCast, Fa (by omega)]
 have h8 : dV.f (8 * (c : Int)) = some (strOfNums (d7 ((8 * (c : Int) / 4294967296) % 4294967296) ++ d7 (8 * (c : Int) % 4294967296))) := by
  have key : ∀ hi lo : Int, (if (strOfNums (d7 hi)).size + (strOfNums (d7 lo)).size ≤ 9223372036854775807 then some (strOfNums (d7 hi) ++ strOfNums (d7 lo)) else none) = some (strOfNums (d7 hi ++ d7 lo)) := by
   intro hi lo
   rw [il]
   exact Fa (by rw [strOfNums_size, strOfNums_size]; show 4 + 4 ≤ _; decide)
  exact key _ _
 refine ⟨(strOfNums [128] ++ strOfNums (List.replicate (hJ rest) 0)) ++ strOfNums (d7 ((8 * (c : Int) / 4294967296) % 4294967296) ++ d7 (8 * (c : Int) % 4294967296)), ?_, ?_, ?_⟩
 ·unfold eO.f
  rw [ez, hz, e8, h8]
  simp only [Option.bind_some]
  rw [Fa (by rw [strOfNums_size]; simp; omega), Fa (by rw [ByteArray.size_append, strOfNums_size, strOfNums_size]; simp [d7]; exact (show 1 + hJ rest ≤ 9223372036854775799 by omega))]
  rfl
 ·rw [ByteArray.size_append, ByteArray.size_append, strOfNums_size, strOfNums_size, strOfNums_size]
  simp [d7]
  omega
 ·unfold g5 iR
  rw [e8, pG _ (by omega) (by omega), il, il]
  have := il (bl rest) ([128] ++ List.replicate (hJ rest) 0 ++ (d7 ((8 * (c : Int) / 4294967296) % 4294967296) ++ d7 (8 * (c : Int) % 4294967296)))
  rw [j6] at this
  rw [this]
  simp only [List.append_assoc]
theorem ld (a b : ByteArray) (c : Nat) (ha : a.size = 32) (hb : b.size = c % 64) (hc : c ≤ 1000000000) : cT.f a b (c : Int) = some true := by
 unfold cT.f
 rw [Fa (by omega), Fa (by omega)]
 have : aX.f (c : Int) 0 1000000000 = some true := by
  unfold aX.f
  rw [Fa (by omega), ya (by omega)]
 rw [this]
 simp only [Option.bind_some]
 rw [Fa trivial, Int.tmod_eq_emod_of_nonneg (by omega)]
 congr 1
 rw [beq_iff_eq]
 omega
def S0 : ByteArray := strOfNums (dK bU.v)
theorem lO {l : List Int} (h : et l) : (strOfNums (dK l)).size = 32 := by
 rw [strOfNums_size, jT, h.1]
theorem j5 : Ev (fun k => cI.f k) (S0, (⟨#[]⟩ : ByteArray), 0) := by
 unfold cI.f
 refine Ev.then (a := bU.v) rfl ?_
 refine Ev.bind (f8 _ (by decide) dv.2) ?_
 exact Ev.now _
theorem o7 {l : List Int} (h : et l) : Ev (fun k => bd.f k (strOfNums (dK l))) l := by
 have := ie (strOfNums (dK l)) 8 (lO h) (by decide)
 rwa [oW h] at this
theorem ut : fc.f = some roundKeys := rfl
theorem kL (s : ByteArray) (hs : s.size ≤ 1000000000) : Ev (fun k => aA.f k S0 (⟨#[]⟩ : ByteArray) 0 s) (strOfNums (dK (gM bU.v s (s.size / 64))), s.extract (64 * (s.size / 64)) s.size, (s.size : Int)) := by
 unfold aA.f
 refine Ev.then (ld S0 _ 0 (lO dv) rfl (by decide)) ?_
 refine Ev.pos rfl ?_
 have e0 : wrap64 (0 + (s.size : Int)) = (s.size : Int) := by rw [w64 (by omega) (by omega)]; omega
 have hd : decide (wrap64 (0 + (s.size : Int)) > 1000000000) = false := by rw [e0]; exact za (by omega)
 rw [hd]
 refine Ev.step (f := fun k => (bd.f k S0).bind fun t => (fc.f).bind fun t2 => (aA.l0 k s t t2 s 0 S0 (⟨#[]⟩ : ByteArray) 0)) (fun k => ?_) ?_
 ·simp only [aA.j0]
  have hz : (⟨#[]⟩ : ByteArray).size + s.size ≤ 9223372036854775807 := (show 0 + s.size ≤ 9223372036854775807 by omega)
  rw [Ga (by decide), qN]
  simp only [Fa hz]
 refine Ev.bind (o7 dv) ?_
 refine Ev.then ut ?_
 refine Ev.up (g := fun n k => aA.l0 k s (gM bU.v s n) roundKeys s ((64 * n : Nat) : Int) S0 (⟨#[]⟩ : ByteArray) 0) (s.size / 64) ?_ ?_ 0 (Nat.zero_le _)
 ·intro n hn hh
  have e1 : wrap64 (((64 * n : Nat) : Int) + 64) = ((64 * (n + 1) : Nat) : Int) := by rw [w64 (by omega) (by omega)]; omega
  refine Ev.step (f := fun k => (ac.f k (gM bU.v s n) roundKeys (s.extract (64 * n) (64 * n + 64))).bind fun t => aA.l0 k s t roundKeys s ((64 * (n + 1) : Nat) : Int) S0 (⟨#[]⟩ : ByteArray) 0) (fun k => ?_) ?_
  ·simp only [aA.l0]
   rw [e1, Fa (by omega), Fa (by omega), Fa (by omega), Int.toNat_natCast, Int.toNat_natCast, show 64 * (n + 1) = 64 * n + 64 by omega]
  exact Ev.bind (iw _ _ (el dv s n) (by rw [ByteArray.size_extract]; omega)) hh
 ·have e1 : wrap64 (((64 * (s.size / 64) : Nat) : Int) + 64) = ((64 * (s.size / 64 + 1) : Nat) : Int) := by rw [w64 (by omega) (by omega)]; omega
  refine Ev.step (f := fun k => (bk.f k (gM bU.v s (s.size / 64))).bind fun t => some (t, s.extract (64 * (s.size / 64)) s.size, (s.size : Int))) (fun k => ?_) ?_
  ·simp only [aA.l0]
   have ha : (0 : Int) ≤ ((64 * (s.size / 64) : Nat) : Int) := by omega
   have hb : ((64 * (s.size / 64) : Nat) : Int) ≤ (s.size : Int) := by omega
   rw [e1, Ga (by omega)]
   simp only [Fa ha, Fa hb, Int.toNat_natCast, e0]
  exact Ev.bind (f8 _ (by rw [(el dv s _).1]; decide) (el dv s _).2) (Ev.now _)
/-- Both digests of a text. -/
theorem d6 (s : ByteArray) (hs : s.size ≤ 1000000000) : ∃ d, d.size = 32 ∧ Ev (fun k => bK.f k s) d ∧ bM.f s = some d := by
 have hrs : (s.extract (64 * (s.size / 64)) s.size).size = s.size % 64 := by rw [ByteArray.size_extract]; omega
 obtain ⟨e, he, hes, hT⟩ := qR s.size (s.extract (64 * (s.size / 64)) s.size) hrs hs
 have hTl := kN (s.extract (64 * (s.size / 64)) s.size) (s.size : Int) 8
 have hpad : (s.size % 64 + 1 + hJ (s.extract (64 * (s.size / 64)) s.size) + 8) % 64 = 0 := by unfold hJ; rw [hrs]; omega
 have hes2 : e.size + s.size % 64 = s.size % 64 + 1 + hJ (s.extract (64 * (s.size / 64)) s.size) + 8 := by
  have := congrArg ByteArray.size hT
  rw [ByteArray.size_append, strOfNums_size, hTl, hrs] at this
  omega
 rw [hrs] at hTl
 have hn : (s ++ e).size / 64 = s.size / 64 + (g5 (s.extract (64 * (s.size / 64)) s.size) (s.size : Int) 8).length / 64 := by
  rw [ByteArray.size_append, hTl]
  omega
 refine ⟨strOfNums (dK (gM bU.v (s ++ e) ((s ++ e).size / 64))), lO (el dv _ _), ?_, ?_⟩
 ·unfold bK.f
  refine Ev.bind j5 ?_
  refine Ev.bind (kL s hs) ?_
  refine Ev.bind (a := strOfNums (dK (gM bU.v (s ++ e) ((s ++ e).size / 64)))) ?_ (Ev.now _)
  show Ev (fun k => dq.f k (strOfNums (dK (gM bU.v s (s.size / 64)))) (s.extract (64 * (s.size / 64)) s.size) (s.size : Int)) _
  unfold dq.f
  refine Ev.then (ld _ _ _ (lO (el dv s _)) hrs hs) ?_
  refine Ev.pos rfl ?_
  refine Ev.bind (o7 (el dv s _)) ?_
  refine Ev.then ut ?_
  refine Ev.bind (lf s e _ _ dv (s.size / 64) (by omega) hT _ (by omega)) ?_
  rw [← hn]
  exact f8 _ (by rw [(el dv _ _).1]; decide) (el dv _ _).2
 ·unfold bM.f
  rw [he]
  simp only [Option.bind_some]
  rw [Fa (by omega), nK _ (el dv _ _).1]
theorem w01 : wrap64 (0 + 1) = 1 := by rw [w64 (by decide) (by decide)]; rfl
theorem w00 : wrap64 (0 + 0) = 0 := by rw [w64 (by decide) (by decide)]; rfl
theorem w20 : wrap64 (2 + 0) = 2 := by rw [w64 (by decide) (by decide)]; rfl
theorem w21 : wrap64 (2 + 1) = 3 := by rw [w64 (by decide) (by decide)]; rfl
theorem w02 : wrap64 (0 * 2) = 0 := by rw [w64 (by decide) (by decide)]; rfl
theorem w12 : wrap64 (1 * 2) = 2 := by rw [w64 (by decide) (by decide)]; rfl
theorem w22 : wrap64 (2 + 2) = 4 := by rw [w64 (by decide) (by decide)]; rfl
theorem w23 : wrap64 (0 + 2) = 2 := by rw [w64 (by decide) (by decide)]; rfl
theorem w11 : wrap64 (1 + 1) = 2 := by rw [w64 (by decide) (by decide)]; rfl
def tF (s : ByteArray) : List (List Int) := [jD s 0 0, jD s 1 0, jD s 0 1, jD s 1 1]
theorem mi (s : ByteArray) (hs : s.size ≤ 1048576) : Ev (fun k => ax.f k s) (tF s) := by
 have r1 : ∀ (l : List (List Int)) (i j j' : Int) (hj : j < 2) (hw : wrap64 (j + 1) = j') (hl : l.length ≤ 5) (res : List (List Int)) (h : Ev (fun k => ax.l1 k s (l ++ [jD s j i]) i j') res), Ev (fun k => ax.l1 k s l i j) res := by
  intro l i j j' hj hw hl res h
  refine Ev.step (fun k => by simp only [ax.l1]; rw [Fa hj, hw]) ?_
  exact Ev.bind (lr s j i hs) (Ev.pos (by omega) h)
 have r2 : ∀ (l : List (List Int)) (i i' : Int) (hw : wrap64 (i + 1) = i') (res : List (List Int)) (h : Ev (fun k => ax.l0 k s l i') res), Ev (fun k => ax.l1 k s l i 2) res := by
  intro l i i' hw res h
  exact Ev.step (fun k => by simp only [ax.l1]; rw [Ga (by decide), hw]) h
 have r3 : ∀ (l : List (List Int)) (i : Int) (hi : i < 2) (res : List (List Int)) (h : Ev (fun k => ax.l1 k s l i 0) res), Ev (fun k => ax.l0 k s l i) res := by
  intro l i hi res h
  exact Ev.step (fun k => by simp only [ax.l0]; rw [Fa hi]) h
 unfold ax.f
 refine r3 _ 0 (by decide) _ (r1 _ 0 0 1 (by decide) w01 (by simp) _ (r1 _ 0 1 2 (by decide) w11 (by simp) _ (r2 _ 0 1 w01 _ (r3 _ 1 (by decide) _ (r1 _ 1 0 1 (by decide) w01 (by simp) _ (r1 _ 1 1 2 (by decide) w11 (by simp) _ (r2 _ 1 2 w11 _ ?_)))))))
 exact Ev.step (f := fun _ => some (tF s)) (fun k => by simp only [ax.l0]; rw [Ga (by decide)]; rfl) (Ev.now _)
theorem fQ (s : ByteArray) (a b : Int) (hb : b = wrap64 (a + 1)) (ha : a = wrap64 (a + 0)) (hs : s.size ≤ 1048576) : Ev (fun k => bs.f k s a) [iK s a, iK s b] := by
 have u := fun x => jM s x hs
 unfold bs.f
 refine Ev.step (f := fun k => (bN.f k s a).bind fun t => bs.l0 k s a [t] 1) (fun k => by simp only [bs.l0]; rw [Fa (by decide), w01, ← ha]; simp) (Ev.bind (u a) ?_)
 refine Ev.step (f := fun k => (bN.f k s b).bind fun t => bs.l0 k s a [iK s a, t] 2) (fun k => by simp only [bs.l0]; rw [Fa (by decide), w11, ← hb]; simp) (Ev.bind (u b) ?_)
 exact Ev.step (f := fun _ => some _) (fun k => by simp only [bs.l0]; rw [Ga (by decide)]) (Ev.now _)
theorem iL (a b A B : List Int) (h1 : Ev (fun k => aI.f k a) A) (h2 : Ev (fun k => aI.f k b) B) : Ev (fun k => bZ.f k [a, b]) [A, B] := by
 unfold bZ.f
 refine Ev.step (f := fun k => (aI.f k a).bind fun t => bZ.l0 k [t] [a, b] 2 1) (fun k => by simp only [bZ.l0]; rw [Fa (by simp), Fa (by decide), Fa (by simp), w01]; rfl) (Ev.bind h1 ?_)
 refine Ev.step (f := fun k => (aI.f k b).bind fun t => bZ.l0 k [A, t] [a, b] 2 2) (fun k => by simp only [bZ.l0]; rw [Fa (by simp), Fa (by decide), Fa (by simp), w11]; simp [dE]) (Ev.bind h2 ?_)
 exact Ev.step (f := fun _ => some _) (fun k => by simp only [bZ.l0]; rw [Ga (by decide)]) (Ev.now _)
theorem kj (s : ByteArray) (i : Int) (hs : s.size ≤ 1048576) : Ev (fun k => bV.f k s i false) [jD s 0 i, jD s 1 i] := by
 have u := fun x y => iX s x y hs
 unfold bV.f
 refine Ev.step (f := fun k => (am.f k s 0 i).bind fun t => bV.l0 k s i false [t] 1) (fun k => by simp only [bV.l0]; rw [Fa (by decide), Ga (by decide), w01]; simp) (Ev.bind (u 0 i) ?_)
 refine Ev.step (f := fun k => (am.f k s 1 i).bind fun t => bV.l0 k s i false [jD s 0 i, t] 2) (fun k => by simp only [bV.l0]; rw [Fa (by decide), Ga (by decide), w11]; simp) (Ev.bind (u 1 i) ?_)
 exact Ev.step (f := fun _ => some _) (fun k => by simp only [bV.l0]; rw [Ga (by decide)]) (Ev.now _)
theorem iQ (d rho sg : ByteArray) (m : List (List Int)) (s : List (List Int)) (P S : ByteArray) (i : Int) (hi : i < 2) (hl : s.length ≤ 5) (e u : List Int) (res : ByteArray × ByteArray × Bool)
  (f1 : Ev (fun k => bP.f k sg i) e) (f2 : Ev (fun k => aY.f k e) u) (hp : S.size + (ca u).size ≤ 9223372036854775807)
  (h : Ev (fun k => bf.l0 k d rho sg m (s ++ [u]) P (S ++ ca u) (wrap64 (i + 1))) res) : Ev (fun k => bf.l0 k d rho sg m s P S i) res := by
 refine Ev.step (fun k => by simp only [bf.l0]; rw [Fa hi]) ?_
 exact Ev.bind f1 (Ev.bind f2 (Ev.pos (by omega) (Ev.bind (gZ u) (Ev.pos hp h))))
theorem iZ (d rho sg : ByteArray) (m s row : List (List Int)) (P S : ByteArray) (i i2 : Int) (hi : i < 2) (g e x v : List Int) (res : ByteArray × ByteArray × Bool)
  (j0 j1 : Int) (hm : m.length = 4) (z0 : wrap64 (i * 2) = j0) (z1 : wrap64 (j0 + 2) = j1) (q0 : 0 ≤ j0 ∧ j0 ≤ j1 ∧ j1 ≤ 4) (k3 : (m.take (j1 : Int).toNat).drop (j0 : Int).toNat = row) (k4 : wrap64 (2 + i) = i2)
  (f1 : Ev (fun k => bb.f k row s) g) (f2 : Ev (fun k => bP.f k sg i2) e) (f3 : Ev (fun k => aY.f k e) x) (f4 : Ev (fun k => aM.f k g x) v) (hp : P.size + (ca v).size ≤ 9223372036854775807)
  (h : Ev (fun k => bf.l1 k d rho sg m s (P ++ ca v) S (wrap64 (i + 1))) res) : Ev (fun k => bf.l1 k d rho sg m s P S i) res := by
 refine Ev.step (fun k => by simp only [bf.l1]; rw [Fa hi, z0, z1, Fa q0.1, Fa q0.2.1, Fa (by omega), k3, k4]) ?_
 exact Ev.bind f1 (Ev.bind f2 (Ev.bind f3 (Ev.bind f4 (Ev.bind (gZ v) (Ev.pos hp h)))))
theorem iW (d rho : ByteArray) (s e row : List (List Int)) (P S : ByteArray) (i : Int) (hi : i < 2) (h0 : 0 ≤ i) (he : i < (e.length : Int)) (hs : i < (s.length : Int)) (g x u v : List Int) (res : ByteArray × ByteArray × Bool)
  (k1 : dE e i = x) (k2 : dE s i = u) (hu : u.length ≤ 1000) (hv : v.length ≤ 1000)
  (f0 : Ev (fun k => bV.f k rho i false) row) (f1 : Ev (fun k => bB.f k row s) g) (f4 : Ev (fun k => bD.f k g x) v) (hp : P.size + (ca v).size ≤ 9223372036854775807) (hq : S.size + (ca u).size ≤ 9223372036854775807)
  (h : Ev (fun k => bu.l0 k d rho s e (P ++ ca v) (S ++ ca u) (wrap64 (i + 1))) res) : Ev (fun k => bu.l0 k d rho s e P S i) res := by
 refine Ev.step (fun k => by simp only [bu.l0]; rw [Fa hi, k1, k2]) ?_
 exact Ev.bind f0 (Ev.bind f1 (Ev.pos h0 (Ev.pos he (Ev.bind f4 (Ev.bind (gQ v (by omega)) (Ev.pos hp (Ev.pos hs (Ev.bind (gQ u (by omega)) (Ev.pos hq h)))))))))
theorem qm (s e : ByteArray) (a b : Nat) (h : s.size ≤ a) : (s ++ e).extract a b = e.extract (a - s.size) (b - s.size) := by
 apply eM
 rw [jN, mZ, jN, List.drop_append, List.drop_eq_nil_of_le (by rw [pF]; exact h), pF, List.nil_append]
 congr 1
 omega
theorem nN (s : ByteArray) (n : Nat) (h : s.size = n) : s.extract 0 n = s := by
 apply eM
 rw [jN, List.drop_zero, ← h, ← pF, Nat.sub_zero, List.take_length]
theorem kr (s : ByteArray) : (⟨#[]⟩ : ByteArray) ++ s = s := by
 apply eM
 rw [mZ]
 rfl
theorem nv {l : List Int} (h : bW l = true) : (ca l).size = 384 ∧ cY (ca l) = (l, true) := by
 have hf := jr h
 have hl := fo h
 have e : ca l = d1 12 l := by unfold ca; rw [Fa h]
 have hs : (d1 12 l).size = 384 := by rw [(mz 12 l hf).2, hl]
 have u := o8 12 l (by decide) (by decide) (by omega) hf
 rw [hl] at u
 rw [e]
 refine ⟨hs, ?_⟩
 unfold cY
 have e2 : dN (d1 12 l) 12 256 = (l, true) := u
 rw [e2]
 exact Fa ⟨rfl, h⟩
theorem r6 (u v : List Int) (hu : bW u = true) (hv : bW v = true) (t : ByteArray) : gw ((ca u ++ ca v) ++ t) = ([u, v], true) := by
 obtain ⟨u1, u2⟩ := nv hu
 obtain ⟨v1, v2⟩ := nv hv
 have hs : (ca u ++ ca v).size = 768 := by rw [ByteArray.size_append, u1, v1]
 have e1 : ((ca u ++ ca v) ++ t).extract 0 384 = ca u := by
  rw [kJ _ _ _ _ (by omega), kJ _ _ _ _ (by omega), nN _ _ u1]
 have e2 : ((ca u ++ ca v) ++ t).extract 384 768 = ca v := by
  rw [kJ _ _ _ _ (by omega), qm _ _ _ _ (by omega), u1]
  exact nN _ _ v1
 unfold gw
 rw [e1, e2, u2, v2]
 rfl
theorem jn {l : List Int} (h : bW l = true) : ∃ R, bW R = true ∧ Ev (fun k => aY.f k l) R ∧ Ev (fun k => aI.f k l) R := by
 obtain ⟨f, rfl, hf⟩ := fd h
 exact ⟨vec (ot f), dL fun i _ => ta hf i, oV f hf, oH f hf⟩
theorem rC {l : List Int} (h : bW l = true) : ∃ R, bW R = true ∧ Ev (fun k => ao.f k l) R ∧ Ev (fun k => ag.f k l) R := by
 obtain ⟨f, rfl, hf⟩ := fd h
 exact ⟨vec (ro f), dL fun i _ => eC _, mf f hf, mJ f hf⟩
theorem ri {l u : List Int} (h : bW l = true) (h2 : bW u = true) : ∃ R, bW R = true ∧ Ev (fun k => az.f k l u) R ∧ Ev (fun k => bh.f k l u) R := by
 obtain ⟨f, rfl, hf⟩ := fd h
 obtain ⟨g, rfl, hg⟩ := fd h2
 exact ⟨vec (de f g), dL fun i _ => pH f g i, mu f g hf hg, l6 f g hf hg⟩
theorem kx {l u : List Int} (h : bW l = true) (h2 : bW u = true) : ∃ R, bW R = true ∧ Ev (fun k => aM.f k l u) R ∧ Ev (fun k => bD.f k l u) R := by
 obtain ⟨f, rfl, hf⟩ := fd h
 obtain ⟨g, rfl, hg⟩ := fd h2
 exact ⟨_, dL fun i _ => eC _, lF f g hf hg, lB f g hf hg⟩
theorem tK {l u : List Int} (h : bW l = true) (h2 : bW u = true) : ∃ R, bW R = true ∧ Ev (fun k => aD.f k l u) R ∧ Ev (fun k => b9.f k l u) R := by
 obtain ⟨f, rfl, hf⟩ := fd h
 obtain ⟨g, rfl, hg⟩ := fd h2
 exact ⟨_, dL fun i _ => eC _, ly f g hf hg, iY f g hf hg⟩
theorem sI : bW (List.replicate 256 0) = true := by
 rw [gh]
 exact dL fun i _ => by decide
theorem oe {a0 a1 b0 b1 : List Int} (h0 : bW a0 = true) (h1 : bW a1 = true) (h2 : bW b0 = true) (h3 : bW b1 = true) :
  ∃ R, bW R = true ∧ Ev (fun k => bb.f k [a0, a1] [b0, b1]) R ∧ Ev (fun k => bB.f k [a0, a1] [b0, b1]) R := by
 obtain ⟨p, hp, sp, ip⟩ := ri h0 h2
 obtain ⟨q, hq, sq, iq⟩ := ri h1 h3
 obtain ⟨u, hu, su, iu⟩ := kx sI hp
 obtain ⟨v, hv, sv, iv⟩ := kx hu hq
 have la : (([a0, a1] : List (List Int)).length : Int) = 2 := rfl
 have lb : (([b0, b1] : List (List Int)).length : Int) = 2 := rfl
 refine ⟨v, hv, ?_, ?_⟩
 ·unfold bb.f
  refine Ev.pos (by decide) ?_
  refine Ev.step (f := fun k => (az.f k a0 b0).bind fun t => (aM.f k (List.replicate 256 0) t).bind fun t2 => bb.l0 k [a0, a1] [b0, b1] t2 1) (fun k => ?_) (Ev.bind sp (Ev.bind su ?_))
  ·simp only [bb.l0]
   rw [la, lb, Fa (by decide), Fa (by decide), Fa (by decide), w01]
   rfl
  refine Ev.step (f := fun k => (az.f k a1 b1).bind fun t => (aM.f k u t).bind fun t2 => bb.l0 k [a0, a1] [b0, b1] t2 2) (fun k => ?_) (Ev.bind sq (Ev.bind sv ?_))
  ·simp only [bb.l0]
   rw [la, lb, Fa (by decide), Fa (by decide), Fa (by decide), w11]
   rfl
  refine Ev.step (f := fun _ => some v) (fun k => ?_) (Ev.now _)
  simp only [bb.l0]
  rw [la, Ga (by decide)]
 ·unfold bB.f
  refine Ev.pos (by decide) ?_
  refine Ev.step (f := fun k => (bh.f k a0 b0).bind fun t => (bD.f k (List.replicate 256 0) t).bind fun t2 => bB.l0 k [a0, a1] [b0, b1] t2 2 1) (fun k => ?_) (Ev.bind ip (Ev.bind iu ?_))
  ·simp only [bB.l0]
   rw [la, lb, Fa (by decide), Fa (by decide), Fa (by decide), Fa (by decide), w01]
   rfl
  refine Ev.step (f := fun k => (bh.f k a1 b1).bind fun t => (bD.f k u t).bind fun t2 => bB.l0 k [a0, a1] [b0, b1] t2 2 2) (fun k => ?_) (Ev.bind iq (Ev.bind iv ?_))
  ·simp only [bB.l0]
   rw [la, lb, Fa (by decide), Fa (by decide), Fa (by decide), Fa (by decide), w11]
   rfl
  refine Ev.step (f := fun _ => some v) (fun k => ?_) (Ev.now _)
  simp only [bB.l0]
  rw [Ga (by decide)]
/-- A drawn pair. -/
theorem sR (a : ByteArray) (ha : a.size = 32) : ∃ (P S : ByteArray) (u0 u1 v0 v1 : List Int), bW u0 = true ∧ bW u1 = true ∧ bW v0 = true ∧ bW v1 = true ∧ P.size = 800 ∧ S.size = 1632 ∧ gw P = ([v0, v1], true) ∧ gw S = ([u0, u1], true) ∧ S.extract 768 1568 = P ∧
  Ev (fun k => bf.f k a) (P, S, true) ∧ Ev (fun k => bu.f k a) (P, S, true) := by
 have hz : (a.size : Int) = 32 := by omega
 have one : ∀ (d : ByteArray) (x : UInt8), (d ++ (⟨#[x]⟩ : ByteArray)).size = d.size + 1 := fun d x => by rw [ByteArray.size_append]; rfl
 obtain ⟨d, d32, sd, id⟩ := d6 a (by omega)
 obtain ⟨rho, r32, sr, ir⟩ := d6 (d ++ (⟨#[114]⟩ : ByteArray)) (by rw [one]; omega)
 obtain ⟨sg, g32, ss, is⟩ := d6 (d ++ (⟨#[115]⟩ : ByteArray)) (by rw [one]; omega)
 obtain ⟨zz, z32, sz, iz⟩ := d6 (d ++ (⟨#[122]⟩ : ByteArray)) (by rw [one]; omega)
 have rs : rho.size ≤ 1048576 := by omega
 have gs : sg.size ≤ 1048576 := by omega
 have ul := fun x y => qg rho x y
 have sl := fun n => kT sg n
 obtain ⟨u0, u0l, n1, n2⟩ := jn (sl 0)
 obtain ⟨u1, u1l, n3, n4⟩ := jn (sl 1)
 obtain ⟨x0, x0l, n5, n6⟩ := jn (sl 2)
 obtain ⟨x1, x1l, n7, n8⟩ := jn (sl 3)
 obtain ⟨g0, k0, a1, a2⟩ := oe (ul 0 0) (ul 1 0) u0l u1l
 obtain ⟨v0, l0, a3, a4⟩ := kx k0 x0l
 obtain ⟨g1, k1, b1, b2⟩ := oe (ul 0 1) (ul 1 1) u0l u1l
 obtain ⟨v1, l1, b3, b4⟩ := kx k1 x1l
 have p0 := (nv l0).1
 have p1 := (nv l1).1
 have q0 := (nv u0l).1
 have q1 := (nv u1l).1
 obtain ⟨P1, hP1⟩ : ∃ P1, P1 = ca v0 ++ ca v1 := ⟨_, rfl⟩
 obtain ⟨S1, hS1⟩ : ∃ S1, S1 = ca u0 ++ ca u1 := ⟨_, rfl⟩
 have zP1 : P1.size = 768 := by rw [hP1, ByteArray.size_append]; omega
 have zS1 : S1.size = 768 := by rw [hS1, ByteArray.size_append]; omega
 have e0 : (⟨#[]⟩ : ByteArray).size = 0 := rfl
 obtain ⟨dp, dp32, sp, ip⟩ := d6 (P1 ++ rho) (by rw [ByteArray.size_append]; omega)
 have y1 : (P1 ++ rho).size = 800 := by rw [ByteArray.size_append]; omega
 have y2 : (S1 ++ (P1 ++ rho)).size = 1568 := by rw [ByteArray.size_append]; omega
 have y3 : ((S1 ++ (P1 ++ rho)) ++ dp).size = 1600 := by rw [ByteArray.size_append]; omega
 refine ⟨P1 ++ rho, ((S1 ++ (P1 ++ rho)) ++ dp) ++ zz, u0, u1, v0, v1, u0l, u1l, l0, l1, y1, by rw [ByteArray.size_append]; omega, by rw [hP1]; exact r6 v0 v1 l0 l1 rho, ?_, ?_, ?_, ?_⟩
 ·rw [hS1, ByteArray.append_assoc, ByteArray.append_assoc]
  exact r6 u0 u1 u0l u1l _
 ·rw [kJ _ _ _ _ (by omega), kJ _ _ _ _ (by omega), qm _ _ _ _ (by omega), zS1]
  exact nN _ _ y1
 ·unfold bf.f
  refine Ev.pos hz (Ev.bind sd (Ev.pos (by omega) (Ev.bind sr (Ev.bind ss (Ev.bind (mi rho rs) ?_)))))
  refine iQ d rho sg _ [] _ _ 0 (by decide) (by decide) _ u0 _ (gi sg 0 gs) n1 (by omega) ?_
  rw [w01, kr]
  refine iQ d rho sg _ _ _ _ 1 (by decide) (by simp) _ u1 _ (gi sg 1 gs) n3 (by omega) ?_
  rw [w11, ← hS1]
  refine Ev.step (f := fun k => bf.l1 k d rho sg (tF rho) [u0, u1] (⟨#[]⟩ : ByteArray) S1 0) (fun k => by simp only [bf.l0]; rw [Ga (by decide)]; rfl) ?_
  refine iZ d rho sg _ _ _ _ _ 0 2 (by decide) g0 _ x0 v0 _ 0 2 rfl w02 w23 (by decide) rfl w20 a1 (gi sg 2 gs) n5 a3 (by omega) ?_
  rw [w01, kr]
  refine iZ d rho sg _ _ _ _ _ 1 3 (by decide) g1 _ x1 v1 _ 2 4 rfl w12 w22 (by decide) rfl w21 b1 (gi sg 3 gs) n7 b3 (by omega) ?_
  rw [w11, ← hP1]
  refine Ev.step (fun k => by simp only [bf.l1]; rw [Ga (by decide)]) ?_
  exact Ev.pos (by omega) (Ev.pos (by omega) (Ev.bind sp (Ev.pos (by omega) (Ev.pos (by omega) (Ev.bind sz (Ev.pos (by omega) (Ev.now _)))))))
 ·unfold bu.f
  refine Ev.pos hz (Ev.then id (Ev.pos (by omega) (Ev.then ir (Ev.then is (Ev.bind (fQ sg 0 1 (Eq.symm w01) (Eq.symm w00) gs) (Ev.bind (iL _ _ _ _ n2 n4) (Ev.bind (fQ sg 2 3 (Eq.symm w21) (Eq.symm w20) gs) (Ev.bind (iL _ _ _ _ n6 n8) ?_))))))))
  have lu : ∀ {l : List Int}, bW l = true → l.length ≤ 1000 := fun h => by have := fo h; omega
  refine iW d rho [u0, u1] [x0, x1] _ _ _ 0 (by decide) (by decide) (by simp) (by simp) g0 x0 u0 v0 _ rfl rfl (lu u0l) (lu l0) (kj rho 0 rs) a2 a4 (by omega) (by omega) ?_
  rw [w01, kr, kr]
  refine iW d rho [u0, u1] [x0, x1] _ _ _ 1 (by decide) (by decide) (by simp) (by simp) g1 x1 u1 v1 _ rfl rfl (lu u1l) (lu l1) (kj rho 1 rs) b2 b4 (by omega) (by omega) ?_
  rw [w11, ← hP1, ← hS1]
  refine Ev.step (fun k => by simp only [bu.l0]; rw [Ga (by decide)]) ?_
  exact Ev.pos (by omega) (Ev.pos (by omega) (Ev.then ip (Ev.pos (by omega) (Ev.pos (by omega) (Ev.then iz (Ev.pos (by omega) (Ev.now _)))))))
theorem qp (s : ByteArray) (i : Int) (hs : s.size ≤ 1048576) : Ev (fun k => bV.f k s i true) [jD s i 0, jD s i 1] := by
 have u := fun x y => iX s x y hs
 unfold bV.f
 refine Ev.step (f := fun k => (am.f k s i 0).bind fun t => bV.l0 k s i true [t] 1) (fun k => by simp only [bV.l0]; rw [Fa (by decide), Fa trivial, w01]; simp) (Ev.bind (u i 0) ?_)
 refine Ev.step (f := fun k => (am.f k s i 1).bind fun t => bV.l0 k s i true [jD s i 0, t] 2) (fun k => by simp only [bV.l0]; rw [Fa (by decide), Fa trivial, w11]; simp) (Ev.bind (u i 1) ?_)
 exact Ev.step (f := fun _ => some _) (fun k => by simp only [bV.l0]; rw [Ga (by decide)]) (Ev.now _)
theorem nl (m c : ByteArray) (T : List (List Int)) (rho : ByteArray) (R E : List (List Int)) (o : ByteArray) (i : Int) (hi : i < 2) (h0 : 0 ≤ i) (row : List (List Int)) (s v e u q : List Int) (p : ByteArray) (res : ByteArray × Bool) (hE : i < (E.length : Int)) (he : dE E i = e)
  (f0 : Ev (fun k => bV.f k rho i true) row) (f1 : Ev (fun k => bB.f k row R) s) (f2 : Ev (fun k => ag.f k s) v) (f4 : Ev (fun k => bD.f k v e) u) (f5 : Ev (fun k => bj.f k u 10) q) (f6 : Ev (fun k => aq.f k q 10) p) (hp : o.size + p.size ≤ 9223372036854775807)
  (h : Ev (fun k => aE.l0 k m c T rho R E (o ++ p) (wrap64 (i + 1))) res) : Ev (fun k => aE.l0 k m c T rho R E o i) res := by
 refine Ev.step (fun k => by simp only [aE.l0]; rw [Fa hi, he]) ?_
 exact Ev.bind f0 (Ev.bind f1 (Ev.bind f2 (Ev.pos h0 (Ev.pos hE (Ev.bind f4 (Ev.bind f5 (Ev.bind f6 (Ev.pos hp h))))))))
theorem jQ (d : Nat) {l : List Int} (hl : bW l = true) : (d1 d (sqV l d)).size = 32 * d := by
 unfold d1 sqV
 rw [strOfNums_size, fb, List.length_map, fo hl]
 omega
theorem qC (m : ByteArray) : bW (fa m) = true := by
 refine dL (f := j7 m) fun i _ => ?_
 unfold j7
 generalize (bt m ((i / 8 : Nat) : Int)).toNat / 2 ^ (i % 8) = x
 rw [fN (by decide) (by show 0 ≤ ((x % 2 : Nat) : Int) ∧ ((x % 2 : Nat) : Int) ≤ 1; omega)]
 show 0 ≤ (3329 * ((x % 2 : Nat) : Int) + 1) / 2 ∧ (3329 * ((x % 2 : Nat) : Int) + 1) / 2 ≤ 3328
 omega
theorem pK (P m c : ByteArray) (v0 v1 : List Int) (h0 : bW v0 = true) (h1 : bW v1 = true) (hP : P.size = 800) (hT : gw P = ([v0, v1], true)) (m32 : m.size = 32) (c32 : c.size = 32) :
  ∃ C : ByteArray, C.size = 768 ∧ Ev (fun k => aE.f k P m c) (C, true) := by
 have hp8 : (P.size : Int) = 800 := by omega
 have h : gB P = true := by unfold gB; rw [Fa hp8, hT]
 have hcb : ((c.size : Int) != 32) = false := bne_eq_false_iff_eq.mpr (by omega)
 have hr : (P.extract 768 P.size).size ≤ 1048576 := by rw [ByteArray.size_extract]; omega
 have cs : c.size ≤ 1048576 := by omega
 have iP := gx P (by omega)
 have ul := fun x y => qg (P.extract 768 P.size) x y
 have sl := fun n => kT c n
 obtain ⟨R0, R0l, n1, n2⟩ := jn (sl 0)
 obtain ⟨R1, R1l, n3, n4⟩ := jn (sl 1)
 have part : ∀ {a b e : List Int}, bW a = true → bW b = true → bW e = true → ∃ s v u : List Int, bW u = true ∧ Ev (fun k => bB.f k [a, b] [R0, R1]) s ∧ Ev (fun k => ag.f k s) v ∧ Ev (fun k => bD.f k v e) u := by
  intro a b e ha hb he
  obtain ⟨s, s1, s2, s3⟩ := oe ha hb R0l R1l
  obtain ⟨v, v1, v2, v3⟩ := rC s1
  obtain ⟨u, u1, u2, u3⟩ := kx v1 he
  exact ⟨s, v, u, u1, s3, v3, u3⟩
 obtain ⟨s0, y0, u0, l0, a2, a4, a6⟩ := part (ul 0 0) (ul 0 1) (sl 2)
 obtain ⟨s1, y1, u1, l1, b2, b4, b6⟩ := part (ul 1 0) (ul 1 1) (sl 3)
 obtain ⟨s2, y2, u2, l2, c2, c4, c6⟩ := part h0 h1 (sl 4)
 obtain ⟨w, w1, w2, w3⟩ := kx l2 (qC m)
 have e0 : (⟨#[]⟩ : ByteArray).size = 0 := rfl
 have p0 := jQ 10 l0
 have p1 := jQ 10 l1
 have p2 := jQ 4 w1
 have lu : ∀ {l : List Int}, bW l = true → l.length ≤ 1000 := fun h => by have := fo h; omega
 have q1 : (d1 10 (sqV u0 (10 : Nat)) ++ d1 10 (sqV u1 (10 : Nat))).size = 640 := by rw [ByteArray.size_append]; omega
 refine ⟨(d1 10 (sqV u0 (10 : Nat)) ++ d1 10 (sqV u1 (10 : Nat))) ++ d1 4 (sqV w (4 : Nat)), by rw [ByteArray.size_append]; omega, ?_⟩
 unfold aE.f
 refine Ev.bind (ib P) (Ev.pos h (Ev.pos (by omega) ?_))
 rw [hcb]
 refine Ev.step (fun k => by simp only [aE.j0]; rw [Ga (by decide)]) (Ev.bind iP ?_)
 rw [hT]
 refine Ev.pos (by omega) (Ev.bind (fQ c 0 1 (Eq.symm w01) (Eq.symm w00) cs) (Ev.bind (iL _ _ _ _ n2 n4) (Ev.bind (fQ c 2 3 (Eq.symm w21) (Eq.symm w20) cs) ?_)))
 refine nl m c [v0, v1] _ [R0, R1] _ _ 0 (by decide) (by decide) _ s0 y0 (iK c 2) u0 _ _ _ (by simp) rfl (qp _ 0 hr) a2 a4 a6 (fy u0 10 (lu l0)) (fg u0 10 (by decide) (by decide) (lu l0)) (by omega) ?_
 rw [w01, kr]
 refine nl m c [v0, v1] _ [R0, R1] _ _ 1 (by decide) (by decide) _ s1 y1 (iK c 3) u1 _ _ _ (by simp) rfl (qp _ 1 hr) b2 b4 b6 (fy u1 10 (lu l1)) (fg u1 10 (by decide) (by decide) (lu l1)) (by omega) ?_
 rw [w11]
 refine Ev.step (fun k => by simp only [aE.l0]; rw [Ga (by decide)]) ?_
 exact Ev.bind c2 (Ev.bind c4 (Ev.bind (jM c 4 cs) (Ev.bind c6 (Ev.bind (je m m32) (Ev.bind w3 (Ev.bind (fy w 4 (lu w1)) (Ev.bind (fg w 4 (by decide) (by decide) (lu w1)) (Ev.pos (by omega) (Ev.now _)))))))))
theorem oS (P m : ByteArray) (v0 v1 : List Int) (h0 : bW v0 = true) (h1 : bW v1 = true) (hP : P.size = 800) (hT : gw P = ([v0, v1], true)) (m32 : m.size = 32) :
  ∃ C K : ByteArray, C.size = 768 ∧ K.size = 32 ∧ Ev (fun k => ci.f k P m) (C, K, true) := by
 have one : ∀ (d : ByteArray) (x : UInt8), (d ++ (⟨#[x]⟩ : ByteArray)).size = d.size + 1 := fun d x => by rw [ByteArray.size_append]; rfl
 obtain ⟨h, h32, s1, i1⟩ := d6 P (by omega)
 have hz : (m ++ h).size = m.size + 32 := by rw [ByteArray.size_append, h32]
 obtain ⟨c, c32, s2, i2⟩ := d6 ((m ++ h) ++ (⟨#[99]⟩ : ByteArray)) (by rw [one]; omega)
 obtain ⟨q, q32, s3, i3⟩ := d6 ((m ++ h) ++ (⟨#[107]⟩ : ByteArray)) (by rw [one]; omega)
 obtain ⟨C, C7, e2⟩ := pK P m c v0 v1 h0 h1 hP hT m32 c32
 refine ⟨C, q, C7, q32, ?_⟩
 unfold ci.f
 exact Ev.then i1 (Ev.pos (by omega) (Ev.pos (by omega) (Ev.then i2 (Ev.bind e2 (Ev.pos rfl (Ev.then i3 (Ev.now _)))))))
theorem nW (s : ByteArray) (d : Nat) (hd : d = 4 ∨ d = 10) (hs : s.size = 32 * d) : bW (rH s (d : Int)) = true := by
 have hb := kb s
 have h8 : (256 : Nat) ^ (32 * d) = 2 ^ (d * 256) := by rw [show (256 : Nat) = 2 ^ 8 from rfl, ← Nat.pow_mul]; congr 1; omega
 rw [hs, h8] at hb
 have e : rH s (d : Int) = vec fun i => da ((dj s / 2 ^ (d * i) % 2 ^ d : Nat) : Int) (d : Int) := by
  have u : dN s (d : Int) 256 = (cS d (dj s) 256, true) := by
   unfold dN
   rw [Fa ⟨by omega, by decide, by show s.size = (256 * d + 7) / 8; omega⟩]
   exact Fa hb
  unfold rH
  rw [u]
  unfold vec cS
  rw [List.map_map]
  rfl
 rw [e]
 refine dL fun i _ => ?_
 rcases hd with rfl | rfl
 ·generalize dj s / 2 ^ (4 * i) = x
  rw [fN (by decide) (by show 0 ≤ ((x % 16 : Nat) : Int) ∧ ((x % 16 : Nat) : Int) ≤ 15; omega)]
  show 0 ≤ (3329 * ((x % 16 : Nat) : Int) + 8) / 16 ∧ (3329 * ((x % 16 : Nat) : Int) + 8) / 16 ≤ 3328
  omega
 ·generalize dj s / 2 ^ (10 * i) = x
  rw [fN (by decide) (by show 0 ≤ ((x % 1024 : Nat) : Int) ∧ ((x % 1024 : Nat) : Int) ≤ 1023; omega)]
  show 0 ≤ (3329 * ((x % 1024 : Nat) : Int) + 512) / 1024 ∧ (3329 * ((x % 1024 : Nat) : Int) + 512) / 1024 ≤ 3328
  omega
theorem th (s c : ByteArray) (a0 a1 : List Int) (h0 : bW a0 = true) (h1 : bW a1 = true) (hs : s.size = 1632) (hT : gw s = ([a0, a1], true)) (hc : c.size = 768) :
  ∃ w, bW w = true ∧ Ev (fun k => aV.f k s c) (w, true) ∧ Ev (fun k => aW.f k s c) (w, true) := by
 have hcb : ((c.size : Int) != 768) = false := bne_eq_false_iff_eq.mpr (by omega)
 have u0 := nW (c.extract 0 320) 10 (.inr rfl) (by rw [ByteArray.size_extract]; omega)
 have u1 := nW (c.extract 320 640) 10 (.inr rfl) (by rw [ByteArray.size_extract]; omega)
 have uv := nW (c.extract 640 c.size) 4 (.inl rfl) (by rw [ByteArray.size_extract]; omega)
 obtain ⟨n0, hn0, sn0, in0⟩ := jn u0
 obtain ⟨n1, hn1, sn1, in1⟩ := jn u1
 obtain ⟨p, hp, sp, ip⟩ := oe h0 h1 hn0 hn1
 obtain ⟨q, hq, sq, iq⟩ := rC hp
 obtain ⟨v, hv, sv, iv⟩ := tK uv hq
 obtain ⟨w1, w2, w3, w4, w5⟩ := uL
 have c320 : (320 : Int) ≤ c.size := by omega
 have c640 : (640 : Int) ≤ c.size := by omega
 have sP := kw s (by omega)
 have iP := gx s (by omega)
 rw [hT] at sP iP
 unfold aV.f aW.f
 rw [hcb]
 refine ⟨v, hv, Ev.pos (by omega) ?_, Ev.pos (by omega) ?_⟩
 ·refine Ev.step (f := fun k => (bp.f k s).bind fun bt => if bt.2 = true then aV.l0 k c bt.1 [] 0 else some ([], false)) (fun k => ?_) (Ev.bind sP (Ev.pos rfl ?_))
  ·simp only [aV.j0]
   rw [Ga (by decide)]
  refine Ev.step (f := fun k => (aC.f k (c.extract 0 320) 10).bind fun t => (aY.f k t).bind fun t2 => aV.l0 k c [a0, a1] ([] ++ [t2]) 1) (fun k => ?_) (Ev.bind (fw _ 10) (Ev.bind sn0 ?_))
  ·simp only [aV.l0, w1, w2, w3]
   rw [Fa (by decide), Fa (by decide), Fa (by decide), Fa c320]
   rfl
  refine Ev.step (f := fun k => (aC.f k (c.extract 320 640) 10).bind fun t => (aY.f k t).bind fun t2 => aV.l0 k c [a0, a1] ([n0] ++ [t2]) 2) (fun k => ?_) (Ev.bind (fw _ 10) (Ev.bind sn1 ?_))
  ·simp only [aV.l0, w3, w4, w5]
   rw [Fa (by decide), Fa (by decide), Fa (by decide), Fa c640]
   rfl
  refine Ev.step (f := fun k => (aC.f k (c.extract 640 c.size) 4).bind fun t => (bb.f k [a0, a1] [n0, n1]).bind fun t2 => (ao.f k t2).bind fun t3 => (aD.f k t t3).bind fun t4 => some (t4, true)) (fun k => ?_) (Ev.bind (fw _ 4) (Ev.bind sp (Ev.bind sq (Ev.bind sv (Ev.now _)))))
  simp only [aV.l0]
  rw [Ga (by decide), Fa c640]
  rfl
 ·refine Ev.step (f := fun k => (bg.f k s).bind fun bt => if bt.2 = true then aW.l0 k c bt.1 [] 0 else some ([], false)) (fun k => ?_) (Ev.bind iP (Ev.pos rfl ?_))
  ·simp only [aW.j0]
   rw [Ga (by decide)]
  have l0 := gq (c.extract 0 320) 10 256
  have l1 := gq (c.extract 320 640) 10 256
  have l2 := gq (c.extract 640 c.size) 4 256
  refine Ev.step (f := fun k => (ar.f k (c.extract 0 320) 10 256).bind fun bt => (ba.f k bt.1 10).bind fun t => (aI.f k t).bind fun t2 => aW.l0 k c [a0, a1] ([] ++ [t2]) 1) (fun k => ?_) (Ev.bind (fP _ 10 256) (Ev.bind (fS _ 10 l0) (Ev.bind in0 ?_)))
  ·simp only [aW.l0, w1, w2, w3]
   rw [Fa (by decide), Fa (by decide), Fa (by decide), Fa c320]
   rfl
  refine Ev.step (f := fun k => (ar.f k (c.extract 320 640) 10 256).bind fun bt => (ba.f k bt.1 10).bind fun t => (aI.f k t).bind fun t2 => aW.l0 k c [a0, a1] ([n0] ++ [t2]) 2) (fun k => ?_) (Ev.bind (fP _ 10 256) (Ev.bind (fS _ 10 l1) (Ev.bind in1 ?_)))
  ·simp only [aW.l0, w3, w4, w5]
   rw [Fa (by decide), Fa (by decide), Fa (by decide), Fa c640]
   rfl
  refine Ev.step (f := fun k => (ar.f k (c.extract 640 c.size) 4 256).bind fun bt => (ba.f k bt.1 4).bind fun t => (bB.f k [a0, a1] [n0, n1]).bind fun t2 => (ag.f k t2).bind fun t3 => (b9.f k t t3).bind fun t4 => some (t4, true)) (fun k => ?_) (Ev.bind (fP _ 4 256) (Ev.bind (fS _ 4 l2) (Ev.bind ip (Ev.bind iq (Ev.bind iv (Ev.now _))))))
  simp only [aW.l0]
  rw [Ga (by decide), Fa c640]
  rfl
/-- Numbers that are near a bit, stretched, are squeezed to it. -/
theorem rS (x : Int) (b : Nat) (hb : b < 2) (h0 : 0 ≤ x ∧ x ≤ 3328) (h : dst x (da (b : Int) 1) ≤ 831) : gn x 1 = (b : Int) := by
 rw [jj h0 (by decide)]
 rw [fN (by decide) (by show 0 ≤ (b : Int) ∧ (b : Int) ≤ 1; omega)] at h
 unfold dst jl at h
 replace h : (if 3329 - (x - (3329 * (b : Int) + 1) / 2) % 3329 < (x - (3329 * (b : Int) + 1) / 2) % 3329 then 3329 - (x - (3329 * (b : Int) + 1) / 2) % 3329 else (x - (3329 * (b : Int) + 1) / 2) % 3329) ≤ 831 := h
 show (2 * x + 1664) / 3329 % 2 = (b : Int)
 have hb2 : b = 0 ∨ b = 1 := by omega
 rcases hb2 with rfl | rfl
 ·split at h <;> omega
 ·split at h <;> omega
theorem o1 (m : ByteArray) (h : m.size = 32) : d1 1 (cS 1 (dj m) 256) = m := by
 have hb := kb m
 have h8 : (256 : Nat) ^ 32 = 2 ^ (1 * 256) := by decide
 rw [h, h8] at hb
 unfold d1
 rw [eD, mc, Nat.mod_eq_of_lt hb]
 have e := iy m
 rw [h] at e
 exact e
theorem qL (f : Nat → Int) (hf : ∀ i, 0 ≤ f i ∧ f i ≤ 3328) (m : ByteArray) (h : m.size = 32) (hr : lp f (j7 m) ≤ 831) : d1 1 (sqV (vec f) 1) = m := by
 have e : sqV (vec f) 1 = cS 1 (dj m) 256 := by
  unfold sqV vec cS
  rw [List.map_map]
  refine List.map_congr_left fun i hi => ?_
  have hi := List.mem_range.mp hi
  have hd := Int.le_trans (rP (fun i => dst (f i) (j7 m i)) hi) hr
  have hx : (bt m ((i / 8 : Nat) : Int)).toNat / 2 ^ (i % 8) % 2 = dj m / 2 ^ i % 2 := by
   rw [lL m (i / 8) (by omega), Int.toNat_natCast, qu]
  unfold j7 at hd
  simp only [hx] at hd
  rw [Nat.one_mul]
  exact rS (f i) _ (Nat.mod_lt _ (by decide)) (hf i) hd
 rw [e]
 exact o1 m h
theorem rx (s m c : ByteArray) (w : List Int) (hw : bW w = true) (m32 : m.size = 32) (so : Ev (fun k => aV.f k s c) (w, true)) (io : Ev (fun k => aW.f k s c) (w, true)) :
  ∃ r : Int, 0 ≤ r ∧ Ev (fun k => bQ.f k s m c) r ∧ Ev (fun k => bR.f k s m c) r ∧ (r ≤ 831 → d1 1 (sqV w 1) = m) := by
 have hmb : ((m.size : Int) != 32) = false := bne_eq_false_iff_eq.mpr (by omega)
 obtain ⟨f, rfl, hf⟩ := fd hw
 have hb := qC m
 have hg : ∀ i, i < 256 → 0 ≤ j7 m i ∧ j7 m i ≤ 3328 := fun i hi => lS (f := j7 m) hb i hi
 obtain ⟨g, eg, hg2⟩ := fd hb
 have sf := oy f g hf hg2
 have fi := ox f g hf hg2
 rw [← eg] at sf fi
 refine ⟨lp f g, (sX f g).1, ?_, ?_, fun hr => qL f hf m m32 ?_⟩
 ·unfold bQ.f
  refine Ev.bind so (Ev.pos rfl ?_)
  rw [hmb]
  refine Ev.step (f := fun k => (aN.f k m).bind fun t => (bS.f k (vec f) t).bind fun t2 => some t2) (fun k => ?_) (Ev.bind (lD m m32) (Ev.bind sf (Ev.now _)))
  simp only [bQ.j0]
  rw [Ga (by decide)]
 ·unfold bR.f
  refine Ev.bind io (Ev.pos rfl ?_)
  rw [hmb]
  refine Ev.step (f := fun k => (bC.f k m).bind fun t => (cm.f k (vec f) t).bind fun t2 => some t2) (fun k => ?_) (Ev.bind (je m m32) (Ev.bind fi (Ev.now _)))
  simp only [bR.j0]
  rw [Ga (by decide)]
 ·have e : lp f (j7 m) = lp f g := pj fun i hi => by rw [sD (f := j7 m) (g := g) eg i hi]
  rw [e]
  exact hr
theorem ow (l : List Int) (hl : l.length ≤ 1048576) : ∃ s m : ByteArray, s.size = 32 ∧ m.size = 32 ∧ Ev (fun k => cw.f k l) (s, m) := by
 obtain ⟨h, e0, c0⟩ := rn l hl
 obtain ⟨x, i1, h1, e1, x0, x1, c1⟩ := mb l 0 h 4 c0 (by decide)
 obtain ⟨t, i2, h2, e2, ts, c2⟩ := nu l i1 h1 x c1 (by omega)
 obtain ⟨d, d32, sd, _⟩ := d6 t (by omega)
 obtain ⟨y, i3, h3, e3, y0, y1, c3⟩ := mb l i2 h2 4 c2 (by decide)
 obtain ⟨u, i4, h4, e4, us, c4⟩ := nu l i3 h3 y c3 (by omega)
 obtain ⟨q, q32, sq, _⟩ := d6 u (by omega)
 refine ⟨d, q, d32, q32, ?_⟩
 unfold cw.f
 exact Ev.bind e0 (Ev.then e1 (Ev.bind e2 (Ev.bind sd (Ev.then e3 (Ev.bind e4 (Ev.bind sq (Ev.now _)))))))
end Go.Proofs.YtmdlpmddljbkeaaGreatDoor.Pure
