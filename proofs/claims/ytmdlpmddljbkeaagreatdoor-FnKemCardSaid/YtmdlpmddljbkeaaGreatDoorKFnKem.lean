/- Plain laws that the law FnKem rests on. -/
import Derived.Test.YtmdlpmddljbkeaaGreatDoorPx15
namespace Go.Proofs.YtmdlpmddljbkeaaGreatDoor.Pure
open Go.RowKit YtmdlpmddljbkeaaGreatDoorW.PrintWords YtmdlpmddljbkeaaGreatDoorW.PrintLast YtmdlpmddljbkeaaGreatDoorW.PrintMore YtmdlpmddljbkeaaGreatDoor.P YtmdlpmddljbkeaaGreatDoor.Kit
set_option linter.unusedVariables false
set_option linter.unusedSimpArgs false

theorem w64 {x : Int} (h1 : -9223372036854775808 ≤ x) (h2 : x ≤ 9223372036854775807) : wrap64 x = x := by unfold wrap64; omega
theorem dz (n : Nat) (h : n < 9223372036854775807) : wrap64 ((n : Int) + 1) = ((n + 1 : Nat) : Int) := by rw [w64 (by omega) (by omega)]; rfl
theorem Ev.pos {α : Type} {c : Prop} [Decidable c] {f g : Nat → Option α} {r : α} (hc : c) (h : Ev f r) : Ev (fun k => if c then f k else g k) r := by
 simpa only [Fa hc] using h
theorem Ev.neg {α : Type} {c : Prop} [Decidable c] {f g : Nat → Option α} {r : α} (hc : ¬ c) (h : Ev g r) : Ev (fun k => if c then f k else g k) r := by
 simpa only [Ga hc] using h
theorem Ev.const {α : Type} {o : Option α} {r : α} (h : o = some r) : Ev (fun _ => o) r := ⟨0, fun _ _ => h⟩
theorem Ev.then {α β : Type} {o : Option α} {f : Nat → α → Option β} {a : α} {r : β} (h : o = some a) (k : Ev (fun n => f n a) r) : Ev (fun n => o.bind (f n)) r := by
 subst h; exact k
/-- A loop that iM up: what it answers at the end, it answers from the start. -/
theorem Ev.up {α : Type} {g : Nat → Nat → Option α} {r : α} (n : Nat) (hs : ∀ i, i < n → Ev (g (i + 1)) r → Ev (g i) r) (he : Ev (g n) r) (i : Nat) (hi : i ≤ n) : Ev (g i) r := by
 obtain ⟨d, rfl⟩ : ∃ d, n = i + d := ⟨n - i, by omega⟩
 induction d generalizing i with
 | zero => exact he
 | succ d ih =>
  refine hs i (by omega) (ih (i + 1) ?_ ?_ (by omega))
  ·intro j hj h
   exact hs j (by omega) h
  ·rw [show i + 1 + d = i + (d + 1) by omega]; exact he
/-- A loop that may stop early. -/
theorem Ev.upTo {α : Type} {g : Nat → Nat → Option α} {r : Nat → α} (n : Nat) (hs : ∀ i, i < n → Ev (g (i + 1)) (r (i + 1)) → Ev (g i) (r i)) (he : Ev (g n) (r n)) (i : Nat) (hi : i ≤ n) : Ev (g i) (r i) := by
 obtain ⟨d, rfl⟩ : ∃ d, n = i + d := ⟨n - i, by omega⟩
 induction d generalizing i with
 | zero => exact he
 | succ d ih =>
  refine hs i (by omega) (ih (i + 1) ?_ ?_ (by omega))
  ·intro j hj h
   exact hs j (by omega) h
  ·rw [show i + 1 + d = i + (d + 1) by omega]; exact he
/-- A loop that iM up from a. -/
theorem Ev.upFrom {α : Type} {g : Nat → Nat → Option α} {r : α} (a n : Nat) (hs : ∀ i, a ≤ i → i < n → Ev (g (i + 1)) r → Ev (g i) r) (he : Ev (g n) r) (h : a ≤ n) : Ev (g a) r := by
 have := Ev.up (g := fun i => g (a + i)) (r := r) (n - a) (fun i hi h => hs (a + i) (by omega) (by omega) h) (by simpa only [show a + (n - a) = n by omega] using he) 0 (by omega)
 exact this
/-! lists -/
theorem kA (l : List Int) (i : Nat) : rd l (i : Int) = l.getD i 0 := by simp [rd]
theorem dw (l : List Int) (i : Nat) (h : i < l.length) : rd l (i : Int) = l[i] := by simp [rd, List.getD_eq_getElem?_getD, List.getElem?_eq_getElem h]
theorem oE {α : Type} (p : α → Bool) (l : List α) (i : Nat) (h : i < l.length) : (l.drop i).all p = (p l[i] && (l.drop (i + 1)).all p) := by
 rw [List.drop_eq_getElem_cons h, List.all_cons]
theorem fY {α : Type} (l : List α) (i : Nat) (h : i < l.length) : l.take i ++ [l[i]] = l.take (i + 1) := by simp
theorem lM (a b c : Int) : (if a ≥ b then (some (decide (a ≤ c))) else (some false)) = some (decide (b ≤ a ∧ a ≤ c)) := by
 by_cases h : a ≥ b
 ·rw [Fa h]; congr 1; rw [decide_eq_decide]; constructor
  ·intro h2; exact ⟨h, h2⟩
  ·intro h2; exact h2.2
 ·rw [Ga h]; congr 1; symm; rw [decide_eq_false_iff_not]; intro h2; exact h h2.1
theorem oQ {α : Type} (l : List α) (d : α) (i : Nat) (h : i < l.length) : (l.take i ++ List.replicate (l.length - i) d).set i l[i] = l.take (i + 1) ++ List.replicate (l.length - (i + 1)) d := by
 apply List.ext_getElem
 ·simp; omega
 ·intro j h1 h2
  simp only [List.getElem_set, List.getElem_append, List.length_take, List.getElem_take, List.getElem_replicate]
  split
  ·subst_vars
   rw [dif_pos (by omega)]
  ·by_cases hj : j < i
   ·rw [dif_pos (by omega), dif_pos (by omega)]
   ·rw [dif_neg (by omega), dif_neg (by omega)]
/-- The first L bytes of S, the least first. -/
def cD (L S : Nat) : List Int := (List.range L).map fun j => ((S / 256 ^ j % 256 : Nat) : Int)
theorem fb (L S : Nat) : (cD L S).length = L := by simp [cD]
theorem eX (L S j : Nat) (h : j < (cD L S).length) : (cD L S)[j] = ((S / 256 ^ j % 256 : Nat) : Int) := by simp [cD]
theorem pa (L : Nat) : cD L 0 = List.replicate L 0 := by
 apply List.ext_getElem
 ·simp [cD]
 ·intro j h1 h2
  rw [eX]; simp
theorem k9 (L S : Nat) : cD L S ++ [((S / 256 ^ L % 256 : Nat) : Int)] = cD (L + 1) S := by simp [cD, List.range_succ]
theorem gL (j : Nat) : 256 ^ j = 2 ^ (8 * j) := by rw [Nat.pow_mul]
theorem sA {S P T b : Nat} (hP : 0 < P) (hS : S < P * T) (hT : T ≤ 128) (hb : b ≤ 1) : S / P % 256 + b * T = (S + b * (P * T)) / P % 256 := by
 have hq : S / P < T := Nat.div_lt_of_lt_mul hS
 have hb2 : b * T ≤ T := by
  have := Nat.mul_le_mul_right T hb
  omega
 rw [show b * (P * T) = P * (b * T) from Nat.mul_left_comm .., Nat.add_mul_div_left _ _ hP]
 obtain ⟨q, hq'⟩ : ∃ q, S / P = q := ⟨_, rfl⟩
 obtain ⟨u, hu⟩ : ∃ u, b * T = u := ⟨_, rfl⟩
 rw [hq'] at hq ⊢
 rw [hu] at hb2 ⊢
 rw [Nat.mod_eq_of_lt (show q < 256 by omega), Nat.mod_eq_of_lt (show q + u < 256 by omega)]
/-- Setting a bit above all others. -/
theorem pR (L S m b : Nat) (hS : S < 2 ^ m) (hb : b ≤ 1) :
  (cD L S).set (m / 8) ((((S / 256 ^ (m / 8)) % 256 + b * 2 ^ (m % 8) : Nat)) : Int) = cD L (S + b * 2 ^ m) := by
 have hmm : 2 ^ m = 256 ^ (m / 8) * 2 ^ (m % 8) := by rw [gL, ← Nat.pow_add]; congr 1; omega
 have h7 : 2 ^ (m % 8) ≤ 128 := by
  have : m % 8 ≤ 7 := by omega
  exact Nat.pow_le_pow_right (n := 2) (by omega) this
 apply List.ext_getElem
 ·simp [cD]
 ·intro j h1 h2
  rw [List.getElem_set, eX, eX]
  by_cases hj : m / 8 = j
  ·rw [Fa hj]; subst hj
   congr 1
   rw [hmm]
   exact sA (Nat.pow_pos (by omega)) (by rw [← hmm]; exact hS) h7 hb
  ·rw [Ga hj]
   congr 1
   by_cases hlt : j < m / 8
   ·obtain ⟨d, hd⟩ : ∃ d, m / 8 = j + 1 + d := ⟨m / 8 - (j + 1), by omega⟩
    have e : b * 2 ^ m = 256 ^ j * (256 * (256 ^ d * (b * 2 ^ (m % 8)))) := by
     rw [hmm, hd, Nat.pow_add, Nat.pow_add]; simp only [Nat.pow_one, Nat.mul_assoc, Nat.mul_comm, Nat.mul_left_comm]
    rw [e, Nat.add_mul_div_left _ _ (Nat.pow_pos (by omega)), Nat.add_mul_mod_self_left]
   ·have hle : 2 ^ (m + 1) ≤ 256 ^ j := by rw [gL]; exact Nat.pow_le_pow_right (by omega) (by omega)
    rw [Nat.pow_succ] at hle
    have hb2 : b * 2 ^ m ≤ 2 ^ m := by
     have := Nat.mul_le_mul_right (2 ^ m) hb
     omega
    rw [Nat.div_eq_of_lt (by omega), Nat.div_eq_of_lt (by omega)]
/-- Numbers of b bits, side by side, the first lowest. -/
def gu (b : Nat) : List Nat → Nat
 | [] => 0
 | x :: l => x + 2 ^ b * gu b l
theorem m5 (b : Nat) (l : List Nat) (x : Nat) : gu b (l ++ [x]) = gu b l + 2 ^ (b * l.length) * x := by
 induction l with
 | nil => simp [gu]
 | cons a l ih =>
  simp only [List.cons_append, gu, ih, List.length_cons, Nat.mul_add, Nat.mul_succ, Nat.pow_add]
  rw [Nat.add_assoc]; congr 2
  rw [← Nat.mul_assoc, Nat.mul_comm (2 ^ b)]
theorem lN (b : Nat) (l : List Nat) (h : ∀ x ∈ l, x < 2 ^ b) : gu b l < 2 ^ (b * l.length) := by
 induction l with
 | nil => simp [gu]
 | cons a l ih =>
  have h1 := h a (List.mem_cons_self ..)
  have h2 := ih fun x hx => h x (List.mem_cons_of_mem _ hx)
  simp only [gu, List.length_cons, Nat.mul_succ, Nat.pow_add]
  have h3 : 2 ^ b * gu b l + 2 ^ b ≤ 2 ^ b * 2 ^ (b * l.length) := by
   rw [← Nat.mul_succ]; exact Nat.mul_le_mul_left _ h2
  rw [Nat.mul_comm (2 ^ (b * l.length))]
  omega
theorem mo (b : Nat) (l : List Nat) (i : Nat) (h : i < l.length) : gu b (l.take (i + 1)) = gu b (l.take i) + 2 ^ (b * i) * l[i] := by
 rw [← List.take_append_getElem h, m5, List.length_take, Nat.min_eq_left (by omega)]
/-- The cS of S of b bits each are what they are put together again. -/
theorem ov (b S n : Nat) : gu b ((List.range n).map fun i => S / 2 ^ (b * i) % 2 ^ b) = S % 2 ^ (b * n) := by
 induction n with
 | zero => simp [gu, Nat.mod_one]
 | succ n ih =>
  rw [List.range_succ, List.map_append, List.map_cons, List.map_nil, m5, ih, List.length_map, List.length_range, Nat.mul_succ, Nat.pow_add, Nat.mod_mul]
theorem lV (b : Nat) (l : List Nat) (h : ∀ x ∈ l, x < 2 ^ b) (i : Nat) (hi : i < l.length) : gu b l / 2 ^ (b * i) % 2 ^ b = l[i] := by
 induction l generalizing i with
 | nil => exact absurd hi (by simp)
 | cons a l ih =>
  have h1 := h a (List.mem_cons_self ..)
  cases i with
  | zero => simp only [gu, Nat.mul_zero, Nat.pow_zero, Nat.div_one, Nat.add_mul_mod_self_left, List.getElem_cons_zero]; exact Nat.mod_eq_of_lt h1
  | succ i =>
   have h2 := ih (fun x hx => h x (List.mem_cons_of_mem _ hx)) i (by simpa using hi)
   simp only [gu, List.getElem_cons_succ]
   rw [Nat.mul_succ, Nat.add_comm (b * i), Nat.pow_add, ← Nat.div_div_eq_div_mul, Nat.add_mul_div_left _ _ (Nat.two_pow_pos b), Nat.div_eq_of_lt h1, Nat.zero_add]
   exact h2
/-- The number that bytes write. -/
def dj (s : ByteArray) : Nat := gu 8 (s.data.toList.map UInt8.toNat)
theorem kb (s : ByteArray) : dj s < 256 ^ s.size := by
 have h := lN 8 (s.data.toList.map UInt8.toNat) (by
  intro x hx
  obtain ⟨c, _, rfl⟩ := List.mem_map.mp hx
  exact c.toNat_lt)
 rw [List.length_map, Array.length_toList, Nat.pow_mul] at h
 exact h
theorem lL (s : ByteArray) (j : Nat) (h : j < s.size) : bt s (j : Int) = ((dj s / 256 ^ j % 256 : Nat) : Int) := by
 have h2 := lV 8 (s.data.toList.map UInt8.toNat) (by
  intro x hx
  obtain ⟨c, _, rfl⟩ := List.mem_map.mp hx
  exact c.toNat_lt) j (by simpa using h)
 rw [Nat.pow_mul] at h2
 unfold dj
 rw [show (256 : Nat) = 2 ^ 8 from rfl, h2]
 unfold bt
 rw [dif_pos (by simpa using h)]
 simp
 rfl
theorem jF (xs : List Int) (i : Nat) (h : i < (strOfNums xs).size) : (strOfNums xs)[i] = UInt8.ofNat (xs[i]'(by simpa [strOfNums_size] using h)).toNat := by
 simp [strOfNums, ByteArray.getElem_eq_getElem_data]
theorem eM {s t : ByteArray} (h : s.data.toList = t.data.toList) : s = t := by
 cases s; cases t; congr 1; exact Array.toList_inj.mp h
theorem oo {s t : ByteArray} : s.toList = t.toList ↔ s = t := by
 constructor
 ·intro h
  refine eM ?_
  simpa [← ByteArray.toList_eq] using h
 ·rintro rfl; rfl
theorem iy (s : ByteArray) : strOfNums (cD s.size (dj s)) = s := by
 refine eM ?_
 rw [strOfNums_data]
 apply List.ext_getElem
 ·simp [cD]
 ·intro j h1 h2
  have hj : j < s.size := by simpa [cD] using h1
  have h3 := lL s j hj
  rw [List.getElem_map, eX, ← h3]
  unfold bt
  rw [dif_pos (by simpa using hj)]
  simp
  rfl
theorem nh {L S T : Nat} (hS : S < 256 ^ L) (hT : T < 256 ^ L) (h : strOfNums (cD L S) = strOfNums (cD L T)) : S = T := by
 have key : ∀ L S T : Nat, S < 256 ^ L → T < 256 ^ L → (∀ j, j < L → S / 256 ^ j % 256 = T / 256 ^ j % 256) → S = T := by
  intro L
  induction L with
  | zero => intro S T h1 h2 _; simp at h1 h2; omega
  | succ L ih =>
   intro S T h1 h2 h3
   have e0 := h3 0 (by omega)
   simp only [Nat.pow_zero, Nat.div_one] at e0
   have e1 := ih (S / 256) (T / 256) (by rw [Nat.pow_succ] at h1; omega) (by rw [Nat.pow_succ] at h2; omega) (fun j hj => by
    have := h3 (j + 1) (by omega)
    rw [Nat.pow_succ, Nat.mul_comm, ← Nat.div_div_eq_div_mul, ← Nat.div_div_eq_div_mul] at this
    exact this)
   omega
 refine key L S T hS hT fun j hj => ?_
 have h4 := congrArg (fun s : ByteArray => s.data.toList[j]?) h
 simp only [strOfNums_data] at h4
 rw [List.getElem?_eq_getElem (by simpa [cD] using hj), List.getElem?_eq_getElem (by simpa [cD] using hj), List.getElem_map, List.getElem_map, eX, eX] at h4
 injection h4 with h4
 have h5 := congrArg UInt8.toNat h4
 rw [Int.toNat_natCast, Int.toNat_natCast] at h5
 simpa using h5
def EqQ (x y : Int) : Prop := x % 3329 = y % 3329
theorem EqQ.refl (x : Int) : EqQ x x := rfl
theorem EqQ.of {x y : Int} (h : x = y) : EqQ x y := by rw [h]; exact EqQ.refl y
theorem EqQ.symm {x y : Int} (h : EqQ x y) : EqQ y x := Eq.symm h
theorem EqQ.trans {x y z : Int} (h : EqQ x y) (k : EqQ y z) : EqQ x z := Eq.trans h k
theorem EqQ.mod (x : Int) : EqQ (x % 3329) x := Int.emod_emod_of_dvd _ (Int.dvd_refl _)
theorem EqQ.neg {x y : Int} (h : EqQ x y) : EqQ (-x) (-y) := by unfold EqQ at *; omega
theorem EqQ.mul {x y z w : Int} (h : EqQ x y) (k : EqQ z w) : EqQ (x * z) (y * w) := by
 unfold EqQ at *
 rw [Int.mul_emod, h, k, ← Int.mul_emod]
theorem EqQ.eqm {x y : Int} (h : EqQ x y) : x % 3329 = y % 3329 := h
theorem eC (x : Int) : 0 ≤ x % 3329 ∧ x % 3329 ≤ 3328 := by omega
theorem gm (a b c : Int) : aX.f a b c = some (decide (b ≤ a ∧ a ≤ c)) := lM a b c
theorem nw (a b c : Int) : b7.f a b c = some (decide (b ≤ a ∧ a ≤ c)) := lM a b c
theorem tV {i : Nat} (h : i ≤ 62) : (2 : Int) ^ i ≤ 4611686018427387904 := by
 have := Nat.pow_le_pow_right (n := 2) (by omega) h
 have h2 : ((2 ^ i : Nat) : Int) ≤ ((2 ^ 62 : Nat) : Int) := Int.ofNat_le.mpr this
 simpa using h2
theorem oc (i : Nat) : (0 : Int) < 2 ^ i := Int.pow_pos (by omega)
theorem gb (n : Int) (h : n ≤ 62) : Ev (fun k => ay.f k n) (2 ^ n.toNat) := by
 unfold ay.f
 refine Ev.up (g := fun i k => ay.l0 k n (2 ^ i) (i : Int)) (r := (2 : Int) ^ n.toNat) n.toNat ?_ ?_ 0 (by omega)
 ·intro i hi h'
  refine Ev.step (fun k => ?_) h'
  simp only [ay.l0]
  have h1 := tV (i := i + 1) (by omega)
  have h2 := oc i
  rw [Int.pow_succ] at h1
  rw [Fa (by omega), dz i (by omega), w64 (by omega) (by omega), Int.pow_succ, Int.mul_comm]
 ·refine Ev.step (f := fun _ => some ((2 : Int) ^ n.toNat)) (fun k => ?_) (Ev.now _)
  simp only [ay.l0]
  rw [Ga (by omega)]
theorem pf (x n : Int) (h : n ≤ 64) : shl .i64 x n = wrap64 (x * 2 ^ n.toNat) := by
 unfold shl
 rw [bq, show min n.toNat IntKind.i64.bits = n.toNat by simp [IntKind.bits]; omega]
theorem uq (x n : Int) (h : n ≤ 64) : shr .i64 x n = x / 2 ^ n.toNat := by
 unfold shr
 rw [show min n.toNat IntKind.i64.bits = n.toNat by simp [IntKind.bits]; omega]
def gn (x d : Int) : Int := if (0 ≤ x ∧ x ≤ 3328) ∧ 1 ≤ d ∧ d ≤ 11 then (2 ^ d.toNat * x + 1664) / 3329 % 2 ^ d.toNat else 0
def da (y d : Int) : Int := if (1 ≤ d ∧ d ≤ 11) ∧ 0 ≤ y ∧ y ≤ 2 ^ d.toNat - 1 then (3329 * y + 2 ^ (d - 1).toNat) / 2 ^ d.toNat else 0
theorem jj {x d : Int} (hx : 0 ≤ x ∧ x ≤ 3328) (hd : 1 ≤ d ∧ d ≤ 11) : gn x d = (2 ^ d.toNat * x + 1664) / 3329 % 2 ^ d.toNat := Fa ⟨hx, hd⟩
theorem iA {x d : Int} (h : ¬ ((0 ≤ x ∧ x ≤ 3328) ∧ 1 ≤ d ∧ d ≤ 11)) : gn x d = 0 := Ga h
theorem fN {y d : Int} (hd : 1 ≤ d ∧ d ≤ 11) (hy : 0 ≤ y ∧ y ≤ 2 ^ d.toNat - 1) : da y d = (3329 * y + 2 ^ (d - 1).toNat) / 2 ^ d.toNat := Fa ⟨hd, hy⟩
theorem gy {y d : Int} (h : ¬ ((1 ≤ d ∧ d ≤ 11) ∧ 0 ≤ y ∧ y ≤ 2 ^ d.toNat - 1)) : da y d = 0 := Ga h
theorem d11 {d : Int} (h1 : 1 ≤ d) (h2 : d ≤ 11) : d = 1 ∨ d = 2 ∨ d = 3 ∨ d = 4 ∨ d = 5 ∨ d = 6 ∨ d = 7 ∨ d = 8 ∨ d = 9 ∨ d = 10 ∨ d = 11 := by omega
theorem pM {d : Int} (h1 : 1 ≤ d) (h2 : d ≤ 11) : (2 : Int) ≤ 2 ^ d.toNat ∧ (2 : Int) ^ d.toNat ≤ 2048 := by
 rcases d11 h1 h2 with rfl | rfl | rfl | rfl | rfl | rfl | rfl | rfl | rfl | rfl | rfl <;> decide
theorem pd {d : Int} (h1 : 1 ≤ d) : (2 : Int) ^ d.toNat = 2 * 2 ^ (d - 1).toNat := by
 rw [show d.toNat = (d - 1).toNat + 1 by omega, Int.pow_succ, Int.mul_comm]
theorem p4 {t x : Int} (ht0 : 0 ≤ t) (ht : t ≤ 2048) (h0 : 0 ≤ x) (h1 : x ≤ 3328) : 0 ≤ t * x ∧ t * x ≤ 6815744 := by
 refine ⟨Int.mul_nonneg ht0 h0, ?_⟩
 have := Int.mul_le_mul ht h1 h0 (by omega)
 omega
theorem s9 {t x : Int} (h0 : 0 ≤ t * x) (h1 : t * x ≤ 6815744) : Int.tmod (wrap64 (Int.tdiv (wrap64 (t * x + 1664)) 3329)) t = (t * x + 1664) / 3329 % t := by
 rw [w64 (x := t * x + 1664) (by omega) (by omega), Int.tdiv_eq_ediv_of_nonneg (by omega), w64 (x := (t * x + 1664) / 3329) (by omega) (by omega), Int.tmod_eq_emod_of_nonneg (by omega)]
theorem sO {a y t : Int} (ht : 2 ≤ t) (h0 : 0 ≤ 3329 * y + a) (h1 : 3329 * y + a ≤ 1000000000) (hy : -1000000 ≤ y ∧ y ≤ 1000000) : wrap64 (Int.tdiv (wrap64 ((wrap64 (3329 * y)) + a)) t) = (3329 * y + a) / t := by
 rw [w64 (x := 3329 * y) (by omega) (by omega), w64 (x := 3329 * y + a) (by omega) (by omega), Int.tdiv_eq_ediv_of_nonneg (by omega)]
 have h2 := Int.ediv_nonneg (a := 3329 * y + a) (b := t) (by omega) (by omega)
 have h3 := Int.ediv_le_self (a := 3329 * y + a) t (by omega)
 exact w64 (by omega) (by omega)
theorem lH (x d : Int) : eB.f x d = some (gn x d) := by
 unfold eB.f
 simp only [nw, Option.bind_some]
 by_cases hx : 0 ≤ x ∧ x ≤ 3328
 ·rw [Fa (by simpa using hx)]
  by_cases hd : 1 ≤ d ∧ d ≤ 11
  ·have hb := pM hd.1 hd.2
   have hm := p4 (by omega) hb.2 hx.1 hx.2
   rw [jj hx hd, Fa (ya hd), Fa (by omega), pf _ _ (by omega), pf _ _ (by omega), Int.one_mul, Int.mul_comm x,
    w64 (x := 2 ^ d.toNat) (by omega) (by omega), Ga (by omega), w64 (x := 2 ^ d.toNat * x) (by omega) (by omega), s9 (by omega) (by omega)]
  ·rw [iA (fun h => hd h.2), Ga (by rw [za hd]; decide)]
 ·rw [iA (fun h => hx h.1), Ga (by rw [za hx]; decide)]
theorem iT (y d : Int) : Ev (fun k => br.f k y d) (da y d) := by
 unfold br.f
 simp only [gm, Option.bind_some]
 by_cases hd : 1 ≤ d ∧ d ≤ 11
 ·have hb := pM hd.1 hd.2
  have hh := pd hd.1
  refine Ev.pos (by simpa using hd) (Ev.bind (gb d (by omega)) ?_)
  rw [w64 (by omega) (by omega)]
  by_cases hy : 0 ≤ y ∧ y ≤ 2 ^ d.toNat - 1
  ·rw [fN hd hy]
   refine Ev.step (f := fun k => (ay.f k (wrap64 (d - 1))).bind fun t112 => ((ay.f k d).bind fun t113 => (if t113 = 0 then (none) else (some (wrap64 (Int.tdiv (wrap64 ((wrap64 (3329 * y)) + t112)) t113)))))) (fun k => ?_) ?_
   ·simp only [br.j0]
    rw [Ga (by simpa using hy)]
   ·rw [w64 (x := d - 1) (by omega) (by omega)]
    refine Ev.bind (gb (d - 1) (by omega)) (Ev.bind (gb d (by omega)) (Ev.neg (by omega) (Ev.const ?_)))
    rw [sO (by omega) (by omega) (by omega) (by omega)]
  ·rw [gy (fun h => hy h.2)]
   refine Ev.step (f := fun _ => some 0) (fun k => ?_) (Ev.now _)
   simp only [br.j0]
   rw [Fa (by rw [za hy]; rfl)]
 ·rw [gy (fun h => hd h.1)]
  refine Ev.neg (by simpa using hd) ?_
  refine Ev.step (f := fun _ => some 0) (fun k => ?_) (Ev.now _)
  simp only [br.j0, if_true]
theorem iS (y d : Int) : dI.f y d = some (da y d) := by
 unfold dI.f
 simp only [nw, Option.bind_some]
 by_cases hd : 1 ≤ d ∧ d ≤ 11
 ·have hb := pM hd.1 hd.2
  have hh := pd hd.1
  rw [Fa (by simpa using hd), Fa (by omega), pf 1 d (by omega), Int.one_mul, w64 (x := 2 ^ d.toNat) (by omega) (by omega), w64 (x := 2 ^ d.toNat - 1) (by omega) (by omega), w64 (x := d - 1) (by omega) (by omega)]
  by_cases hy : 0 ≤ y ∧ y ≤ 2 ^ d.toNat - 1
  ·rw [fN hd hy, Fa (ya hy), Fa (by omega), pf 1 (d - 1) (by omega), uq _ d (by omega), Int.one_mul, w64 (x := 2 ^ (d - 1).toNat) (by omega) (by omega), w64 (x := 3329 * y) (by omega) (by omega), w64 (by omega) (by omega)]
  ·rw [gy (fun h => hy h.2), Ga (by rw [za hy]; decide)]
 ·rw [gy (fun h => hd h.1), Ga (by rw [za hd]; decide)]
def inQ (x : Int) : Bool := decide (0 ≤ x ∧ x ≤ 3328)
def bW (l : List Int) : Bool := decide (l.length = 256) && l.all inQ
theorem fo {l : List Int} (h : bW l = true) : l.length = 256 := by
 unfold bW at h; rw [Bool.and_eq_true] at h; exact of_decide_eq_true h.1
theorem mD {l : List Int} (h : bW l = true) {x : Int} (hx : x ∈ l) : 0 ≤ x ∧ x ≤ 3328 := by
 unfold bW at h; rw [Bool.and_eq_true] at h
 exact of_decide_eq_true (List.all_eq_true.mp h.2 x hx)
theorem pt {l : List Int} (h : bW l = true) (i : Nat) (hi : i < l.length) : 0 ≤ l[i] ∧ l[i] ≤ 3328 := mD h (List.getElem_mem hi)
theorem kM {l : List Int} (h : l.length = 256) (hx : ∀ x ∈ l, 0 ≤ x ∧ x ≤ 3328) : bW l = true := by
 unfold bW; rw [Bool.and_eq_true]
 exact ⟨ya h, List.all_eq_true.mpr fun x hm => ya (hx x hm)⟩
theorem cR (l : List Int) : Ev (fun k => ak.f k l) (bW l) := by
 unfold ak.f bW
 by_cases hl : l.length = 256
 ·refine Ev.pos (by omega) ?_
  rw [ya hl, Bool.true_and]
  refine Ev.upTo (g := fun i k => ak.l0 k l (i : Int)) (r := fun i => (l.drop i).all inQ) l.length ?_ ?_ 0 (by omega)
  ·intro i hi h
   simp only [oE inQ l i hi]
   cases hb : inQ l[i] with
   | true =>
    rw [Bool.true_and]
    refine Ev.step (fun k => ?_) h
    simp only [ak.l0, gm, Option.bind_some]
    rw [Fa (by omega), Fa (by omega), dw l i hi, Fa (show decide (0 ≤ l[i] ∧ l[i] ≤ 3328) = true from hb), dz i (by omega)]
   | false =>
    rw [Bool.false_and]
    refine Ev.step (f := fun _ => some false) (fun k => ?_) (Ev.now _)
    simp only [ak.l0, gm, Option.bind_some]
    rw [Fa (by omega), Fa (by omega), dw l i hi, Ga (by unfold inQ at hb; rw [hb]; decide)]
  ·refine Ev.step (f := fun _ => some ((l.drop l.length).all inQ)) (fun k => ?_) (Ev.now _)
   simp only [ak.l0]
   rw [Ga (by omega)]
   simp
 ·refine Ev.neg (by omega) ?_
  rw [za hl, Bool.false_and]
  exact Ev.now _
theorem dn (l : List Int) (hl : l.length ≤ 35184372088832) : Ev (fun k => ap.f k l) (bW l) := by
 unfold ap.f bW
 have h := Ev.upTo (g := fun i k => ap.l0 k l l (l.length : Int) (i : Int)) (r := fun i => decide (l.length = 256) && (l.drop i).all inQ) l.length ?_ ?_ 0 (by omega)
 ·simpa using h
 ·intro i hi h
  simp only [oE inQ l i hi]
  cases hb : inQ l[i] with
  | true =>
   rw [Bool.true_and]
   refine Ev.step (fun k => ?_) h
   simp only [ap.l0, nw, Option.bind_some]
   rw [Fa (by omega), Fa (by omega), Fa (by omega), dw l i hi, Fa (show decide (0 ≤ l[i] ∧ l[i] ≤ 3328) = true from hb), dz i (by omega)]
  | false =>
   rw [Bool.false_and, Bool.and_false]
   refine Ev.step (f := fun _ => some false) (fun k => ?_) (Ev.now _)
   simp only [ap.l0, nw, Option.bind_some]
   rw [Fa (by omega), Fa (by omega), Fa (by omega), dw l i hi, Ga (by unfold inQ at hb; rw [hb]; decide)]
 ·refine Ev.step (f := fun _ => some (decide (l.length = 256) && (l.drop l.length).all inQ)) (fun k => ?_) (Ev.now _)
  simp only [ap.l0]
  rw [Ga (by omega)]
  simp
  by_cases h : l.length = 256
  ·rw [ya h, h]; rfl
  ·rw [za h]; rw [beq_eq_false_iff_ne]; omega
def vec (f : Nat → Int) : List Int := (List.range 256).map f
theorem aU (f : Nat → Int) : (vec f).length = 256 := by simp [vec]
theorem fI (f : Nat → Int) (i : Nat) (h : i < (vec f).length) : (vec f)[i] = f i := by simp [vec]
theorem dk (f : Nat → Int) (i : Nat) (h : i < 256) : rd (vec f) (i : Int) = f i := by rw [dw _ _ (by rw [aU]; exact h), fI]
theorem dP {f g : Nat → Int} (h : ∀ i, i < 256 → f i = g i) : vec f = vec g := by
 apply List.ext_getElem
 ·rw [aU, aU]
 ·intro i h1 h2
  rw [fI, fI]
  exact h i (by rw [aU] at h1; exact h1)
theorem fH (f : Nat → Int) (n : Nat) (v : Int) : (vec f).set n v = vec fun i => if i = n then v else f i := by
 apply List.ext_getElem
 ·rw [List.length_set, aU, aU]
 ·intro i h1 h2
  rw [List.getElem_set, fI, fI]
  by_cases h : n = i
  ·rw [Fa h, Fa h.symm]
  ·rw [Ga h, Ga (fun e => h e.symm)]
theorem sD {f g : Nat → Int} (h : vec f = vec g) (i : Nat) (hi : i < 256) : f i = g i := by
 have h1 : rd (vec f) i = rd (vec g) i := by rw [h]
 rwa [dk f i hi, dk g i hi] at h1
theorem tH {l : List Int} (h : l.length = 256) : l = vec fun i => rd l i := by
 apply List.ext_getElem
 ·rw [aU, h]
 ·intro i h1 h2
  rw [fI, dw l i h1]
theorem gh (d : Int) : List.replicate 256 d = vec fun _ => d := by
 apply List.ext_getElem
 ·rw [aU, List.length_replicate]
 ·intro i h1 h2
  rw [fI, List.getElem_replicate]
theorem dL {f : Nat → Int} (h : ∀ i, i < 256 → 0 ≤ f i ∧ f i ≤ 3328) : bW (vec f) = true := by
 refine kM (aU f) fun x hx => ?_
 obtain ⟨i, hi, rfl⟩ := List.mem_map.mp hx
 exact h i (List.mem_range.mp hi)
theorem lS {f : Nat → Int} (h : bW (vec f) = true) (i : Nat) (hi : i < 256) : 0 ≤ f i ∧ f i ≤ 3328 := by
 have := pt h i (by rw [aU]; exact hi)
 rwa [fI] at this
/-- A right polynomial is 256 numbers in their range. -/
theorem rq {l : List Int} (h : bW l = true) : ∃ f, l = vec f ∧ ∀ i, i < 256 → 0 ≤ f i ∧ f i ≤ 3328 := by
 have e := tH (fo h)
 refine ⟨_, e, fun i hi => ?_⟩
 rw [e] at h
 exact lS h i hi
/-- The same, each place 0 beyond the last. -/
theorem fd {l : List Int} (h : bW l = true) : ∃ f, l = vec f ∧ ∀ i, 0 ≤ f i ∧ f i ≤ 3328 := by
 obtain ⟨f, rfl, hf⟩ := rq h
 refine ⟨fun i => if i < 256 then f i else 0, dP fun i hi => (Fa hi).symm, fun i => ?_⟩
 show 0 ≤ (if i < 256 then f i else 0) ∧ (if i < 256 then f i else 0) ≤ 3328
 split
 ·exact hf i ‹_›
 ·omega
theorem gg (n : Int) (h1 : -9223372036854775808 ≤ n) (h2 : n ≤ 9223372036854775807) : cd.f n = some (n % 3329) := by
 unfold cd.f
 congr 1
 by_cases h : 0 ≤ n
 ·rw [Int.tmod_eq_emod_of_nonneg h, w64 (by omega) (by omega), Int.tmod_eq_emod_of_nonneg (by omega)]
  omega
 ·have e : Int.tmod n 3329 = -((-n) % 3329) := by
   have := Int.neg_tmod (-n) 3329
   rw [Int.neg_neg] at this
   rw [this, Int.tmod_eq_emod_of_nonneg (by omega)]
  rw [e, w64 (by omega) (by omega), Int.tmod_eq_emod_of_nonneg (by omega)]
  omega
theorem fV {x y : Int} (hx : 0 ≤ x ∧ x ≤ 3328) (hy : 0 ≤ y ∧ y ≤ 3328) : 0 ≤ x * y ∧ x * y ≤ 11075584 := by
 refine ⟨Int.mul_nonneg hx.1 hy.1, ?_⟩
 have := Int.mul_le_mul hx.2 hy.2 hy.1 (by omega)
 omega
theorem lB (a b : Nat → Int) (ha : ∀ i, 0 ≤ a i ∧ a i ≤ 3328) (hb : ∀ i, 0 ≤ b i ∧ b i ≤ 3328) : Ev (fun k => bD.f k (vec a) (vec b)) (vec fun i => (a i + b i) % 3329) := by
 have key : Ev (fun k => ai.f k (vec a) (vec b)) (vec fun i => (a i + b i) % 3329) := by
  unfold ai.f
  have oka := dL (f := a) fun i _ => ha i
  have okb := dL (f := b) fun i _ => hb i
  have la := aU a
  have lb := aU b
  refine Ev.bind (oka ▸ dn (vec a) (by omega)) (Ev.pos rfl (Ev.bind (okb ▸ dn (vec b) (by omega)) ?_))
  refine Ev.step (f := fun k => ai.l0 k (vec a) (vec b) (List.replicate 256 0) ((256 : Nat) : Int) 0) (fun k => ?_) ?_
  ·simp only [ai.j0, Option.bind_some]
   rw [Ga (by decide), Fa (by omega), List.length_replicate]
  ·rw [gh]
   have key := Ev.up (g := fun i k => ai.l0 k (vec a) (vec b) (vec fun n => if n < i then (a n + b n) % 3329 else 0) ((256 : Nat) : Int) (i : Int)) (r := vec fun i => (a i + b i) % 3329) 256 ?_ ?_ 0 (by omega)
   ·have e : (vec fun _ => (0 : Int)) = vec fun n => if n < 0 then (a n + b n) % 3329 else 0 := dP fun n _ => by rw [Ga (by omega)]
    rw [e]; exact key
   ·intro i hi h
    refine Ev.step (fun k => ?_) h
    have h1 := ha i
    have h2 := hb i
    simp only [ai.l0, en.f, Option.bind_some]
    rw [Fa (by omega), Fa (by omega), Fa (by omega), Fa (by omega), dk a i hi, dk b i hi, w64 (x := a i + b i) (by omega) (by omega), gg _ (by omega) (by omega), Option.bind_some, Fa (by rw [aU]; omega), Int.toNat_natCast, fH, dz i (by omega)]
    have e : (vec fun n => if n = i then (a i + b i) % 3329 else if n < i then (a n + b n) % 3329 else 0) = vec fun n => if n < i + 1 then (a n + b n) % 3329 else 0 := by
     refine dP fun n _ => ?_
     by_cases h1 : n = i
     ·subst h1; rw [Fa rfl, Fa (by omega)]
     ·rw [Ga h1]
      by_cases h2 : n < i
      ·rw [Fa h2, Fa (by omega)]
      ·rw [Ga h2, Ga (by omega)]
    rw [e]
   ·refine Ev.step (f := fun _ => some (vec fun i => (a i + b i) % 3329)) (fun k => ?_) (Ev.now _)
    simp only [ai.l0]
    rw [Ga (by omega)]
    exact congrArg some (dP fun n hn => Fa hn)
 unfold bD.f
 exact Ev.bind key (Ev.now _)
theorem iY (a b : Nat → Int) (ha : ∀ i, 0 ≤ a i ∧ a i ≤ 3328) (hb : ∀ i, 0 ≤ b i ∧ b i ≤ 3328) : Ev (fun k => b9.f k (vec a) (vec b)) (vec fun i => (a i - b i) % 3329) := by
 have key : Ev (fun k => af.f k (vec a) (vec b)) (vec fun i => (a i - b i) % 3329) := by
  unfold af.f
  have oka := dL (f := a) fun i _ => ha i
  have okb := dL (f := b) fun i _ => hb i
  have la := aU a
  have lb := aU b
  refine Ev.bind (oka ▸ dn (vec a) (by omega)) (Ev.pos rfl (Ev.bind (okb ▸ dn (vec b) (by omega)) ?_))
  refine Ev.step (f := fun k => af.l0 k (vec a) (vec b) (List.replicate 256 0) ((256 : Nat) : Int) 0) (fun k => ?_) ?_
  ·simp only [af.j0, Option.bind_some]
   rw [Ga (by decide), Fa (by omega), List.length_replicate]
  ·rw [gh]
   have key := Ev.up (g := fun i k => af.l0 k (vec a) (vec b) (vec fun n => if n < i then (a n - b n) % 3329 else 0) ((256 : Nat) : Int) (i : Int)) (r := vec fun i => (a i - b i) % 3329) 256 ?_ ?_ 0 (by omega)
   ·have e : (vec fun _ => (0 : Int)) = vec fun n => if n < 0 then (a n - b n) % 3329 else 0 := dP fun n _ => by rw [Ga (by omega)]
    rw [e]; exact key
   ·intro i hi h
    refine Ev.step (fun k => ?_) h
    have h1 := ha i
    have h2 := hb i
    simp only [af.l0, eo.f, Option.bind_some]
    rw [Fa (by omega), Fa (by omega), Fa (by omega), Fa (by omega), dk a i hi, dk b i hi, w64 (x := a i - b i) (by omega) (by omega), gg _ (by omega) (by omega), Option.bind_some, Fa (by rw [aU]; omega), Int.toNat_natCast, fH, dz i (by omega)]
    have e : (vec fun n => if n = i then (a i - b i) % 3329 else if n < i then (a n - b n) % 3329 else 0) = vec fun n => if n < i + 1 then (a n - b n) % 3329 else 0 := by
     refine dP fun n _ => ?_
     by_cases h1 : n = i
     ·subst h1; rw [Fa rfl, Fa (by omega)]
     ·rw [Ga h1]
      by_cases h2 : n < i
      ·rw [Fa h2, Fa (by omega)]
      ·rw [Ga h2, Ga (by omega)]
    rw [e]
   ·refine Ev.step (f := fun _ => some (vec fun i => (a i - b i) % 3329)) (fun k => ?_) (Ev.now _)
    simp only [af.l0]
    rw [Ga (by omega)]
    exact congrArg some (dP fun n hn => Fa hn)
 unfold b9.f
 exact Ev.bind key (Ev.now _)
def ja (l : List Int) : List Nat := l.map Int.toNat
theorem fO (l : List Int) : (ja l).length = l.length := by simp [ja]
def d1 (b : Nat) (l : List Int) : ByteArray := strOfNums (cD ((l.length * b + 7) / 8) (gu b (ja l)))
def gG (b : Nat) (x : Int) : Bool := decide (0 ≤ x ∧ x ≤ 2 ^ b - 1)
def qt (l : List Int) (b : Int) : ByteArray × Bool :=
 if (1 ≤ b ∧ b ≤ 12) ∧ l.all (gG b.toNat) = true then (d1 b.toNat l, true) else (⟨#[]⟩, false)
theorem kd {b : Nat} {l : List Int} (h : l.all (gG b) = true) : ∀ x ∈ ja l, x < 2 ^ b := by
 intro x hx
 obtain ⟨y, hy, rfl⟩ := List.mem_map.mp hx
 have h2 := of_decide_eq_true (List.all_eq_true.mp h y hy)
 have h3 : ((2 ^ b : Nat) : Int) = (2 : Int) ^ b := by simp
 omega
/-- The first i numbers, as one. -/
def eJ (b : Nat) (l : List Int) (i : Nat) : Nat := gu b ((ja l).take i)
theorem ku (b : Nat) (l : List Int) (i : Nat) (h : i < l.length) : eJ b l (i + 1) = eJ b l i + 2 ^ (b * i) * l[i].toNat := by
 unfold eJ
 rw [mo b (ja l) i (by rw [fO]; exact h)]
 simp [ja]
theorem nF {b : Nat} {l : List Int} (h : l.all (gG b) = true) (i : Nat) (hi : i ≤ l.length) : eJ b l i < 2 ^ (b * i) := by
 have := lN b ((ja l).take i) fun x hx => kd h x (List.mem_of_mem_take hx)
 rw [List.length_take, fO, Nat.min_eq_left hi] at this
 exact this
theorem oL (b : Nat) (l : List Int) : eJ b l l.length = gu b (ja l) := by
 unfold eJ; rw [List.take_of_length_le (by rw [fO]; exact Ca _)]
theorem qi {b : Nat} {l : List Int} (h : l.all (gG b) = true) (i : Nat) (hi : i < l.length) : ∃ n : Nat, l[i] = (n : Int) ∧ n < 2 ^ b := by
 have h2 := of_decide_eq_true (List.all_eq_true.mp h l[i] (List.getElem_mem hi))
 have h3 : ((2 ^ b : Nat) : Int) = (2 : Int) ^ b := by simp
 exact ⟨l[i].toNat, by omega, by omega⟩
theorem ma (m c : Nat) : Int.tdiv (m : Int) (c : Int) = ((m / c : Nat) : Int) := by
 rw [Int.tdiv_eq_ediv_of_nonneg (by omega)]; rfl
theorem mA (m c : Nat) : Int.tmod (m : Int) (c : Int) = ((m % c : Nat) : Int) := by
 rw [Int.tmod_eq_emod_of_nonneg (by omega)]; rfl
theorem qn (m : Nat) : Int.tdiv (m : Int) 8 = ((m / 8 : Nat) : Int) := ma m 8
theorem tx (m : Nat) : Int.tmod (m : Int) 8 = ((m % 8 : Nat) : Int) := mA m 8
theorem iC (m : Nat) (h : m ≤ 9223372036854775807) : wrap64 (m : Int) = (m : Int) := w64 (by omega) (by omega)
theorem oz (n : Nat) (h : n < 2 ^ 62) : Go.bits .and .i64 (n : Int) 1 = ((n % 2 : Nat) : Int) := by
 have := bits_mask .i64 63 (by decide) (fun n h0 h1 => by rw [IntKind.wrap_i64]; omega) 1 (by decide) (n : Int) (by omega) (by
  have : ((2 ^ 62 : Nat) : Int) = 2 ^ 62 := by simp
  omega)
 simpa using this
theorem qj (n : Nat) (h : n < 256) : Go.bits .and .u8 (n : Int) 1 = ((n % 2 : Nat) : Int) := by
 have := bits_mask .u8 8 (by decide) wraps_u8 1 (by decide) (n : Int) (by omega) (by omega)
 simpa using this
theorem qT (a t b : Nat) (ha : a < 2 ^ t) (ht : t ≤ 7) (hb : b ≤ 1) : Go.bits .or .u8 (a : Int) ((b * 2 ^ t : Nat) : Int) = ((a + b * 2 ^ t : Nat) : Int) := by
 have h7 : 2 ^ t ≤ 128 := Nat.pow_le_pow_right (n := 2) (by omega) ht
 have hb2 : b * 2 ^ t ≤ 2 ^ t := by
  have := Nat.mul_le_mul_right (2 ^ t) hb
  omega
 rw [(bits_nat .u8 8 (by decide) wraps_u8 a (b * 2 ^ t) (by omega) (by omega)).2, Nat.or_comm, Nat.mul_comm b, ← Nat.two_pow_add_eq_or_of_lt ha b, Nat.add_comm]
theorem pD (b t : Nat) (ht : t ≤ 7) (hb : b ≤ 1) : shl .u8 (b : Int) (t : Int) = ((b * 2 ^ t : Nat) : Int) := by
 have h7 : 2 ^ t ≤ 128 := Nat.pow_le_pow_right (n := 2) (by omega) ht
 have hb2 : b * 2 ^ t ≤ 2 ^ t := by
  have := Nat.mul_le_mul_right (2 ^ t) hb
  omega
 unfold shl
 rw [Int.toNat_natCast, show min t IntKind.u8.bits = t by simp [IntKind.bits]; omega, IntKind.wrap_u8]
 have : ((b * 2 ^ t : Nat) : Int) = (b : Int) * 2 ^ t := by simp
 omega
theorem lI (k : IntKind) (n t : Nat) (ht : t ≤ k.bits) : shr k (n : Int) (t : Int) = ((n / 2 ^ t : Nat) : Int) := by
 unfold shr
 rw [Int.toNat_natCast, Nat.min_eq_left ht]
 simp
theorem kt (x k : Nat) : x % 2 ^ (k + 1) = x % 2 ^ k + 2 ^ k * (x / 2 ^ k % 2) := by
 rw [Nat.pow_succ, Nat.mod_mul]
theorem pm (L V b i j x : Nat) (hV : V < 2 ^ (b * i)) :
  (cD L (V + 2 ^ (b * i) * (x % 2 ^ j))).set ((i * b + j) / 8) (Go.bits .or .u8 (((V + 2 ^ (b * i) * (x % 2 ^ j)) / 256 ^ ((i * b + j) / 8) % 256 : Nat) : Int) (shl .u8 (((x / 2 ^ j % 2 : Nat) : Int) % 256) (((i * b + j) % 8 : Nat) : Int)))
   = cD L (V + 2 ^ (b * i) * (x % 2 ^ (j + 1))) := by
 obtain ⟨m, hm⟩ : ∃ m, i * b + j = m := ⟨_, rfl⟩
 have hmb : b * i + j = m := by rw [← hm, Nat.mul_comm]
 obtain ⟨S, hSe⟩ : ∃ S, V + 2 ^ (b * i) * (x % 2 ^ j) = S := ⟨_, rfl⟩
 obtain ⟨u, hu⟩ : ∃ u, x / 2 ^ j % 2 = u := ⟨_, rfl⟩
 have hu1 : u ≤ 1 := by omega
 have hS : S < 2 ^ m := by
  have h1 : x % 2 ^ j < 2 ^ j := Nat.mod_lt _ (Nat.two_pow_pos j)
  have h2 : 2 ^ (b * i) * (x % 2 ^ j) + 2 ^ (b * i) ≤ 2 ^ (b * i) * 2 ^ j := by rw [← Nat.mul_succ]; exact Nat.mul_le_mul_left _ h1
  rw [← hSe, ← hmb, Nat.pow_add]
  exact Nat.lt_of_lt_of_le (Nat.lt_of_lt_of_le (Nat.add_lt_add_right hV _) (by rw [Nat.add_comm]; exact Ca _)) h2
 have hnext : V + 2 ^ (b * i) * (x % 2 ^ (j + 1)) = S + u * 2 ^ m := by
  rw [kt, Nat.mul_add, ← hSe, ← hmb, hu, Nat.pow_add, Nat.mul_comm u, Nat.mul_assoc, Nat.add_assoc]
 have hold : S / 256 ^ (m / 8) < 2 ^ (m % 8) := by
  rw [Nat.div_lt_iff_lt_mul (Nat.pow_pos (by omega)), gL, ← Nat.pow_add, show m % 8 + 8 * (m / 8) = m by omega]; exact hS
 have h128 : 2 ^ (m % 8) ≤ 128 := Nat.pow_le_pow_right (n := 2) (by omega) (show m % 8 ≤ 7 by omega)
 have hset := pR L S m u hS hu1
 rw [hm, hSe, hnext, hu, show ((u : Nat) : Int) % 256 = ((u : Nat) : Int) by omega, pD u (m % 8) (by omega) hu1, Nat.mod_eq_of_lt (Nat.lt_of_lt_of_le hold (Nat.le_trans h128 (by omega))), qT _ (m % 8) u hold (by omega) hu1]
 rw [Nat.mod_eq_of_lt (Nat.lt_of_lt_of_le hold (Nat.le_trans h128 (by omega)))] at hset
 exact hset
theorem lY (l : List Int) (b : Nat) (hb1 : 1 ≤ b) (hb : b ≤ 12) (hl : l.length ≤ 1099511627776) (hf : l.all (gG b) = true) (i : Nat) (hi : i < l.length) {r : ByteArray}
  (h : Ev (fun k => aq.l0 k (b : Int) (cD ((l.length * b + 7) / 8) (eJ b l (i + 1))) l (l.length : Int) ((i + 1 : Nat) : Int)) r) :
  Ev (fun k => aq.l1 k (b : Int) (cD ((l.length * b + 7) / 8) (eJ b l i)) (i : Int) l[i] l (l.length : Int) (i : Int) (b : Int) 0) r := by
 obtain ⟨x, hx, hxb⟩ := qi hf i hi
 have hib : i * b + b ≤ l.length * b := by rw [← Nat.succ_mul]; exact Nat.mul_le_mul_right _ hi
 have hlb : l.length * b ≤ 13194139533312 := Nat.le_trans (Nat.mul_le_mul_left _ hb) (by omega)
 have hV := nF hf i (by omega)
 have h12 : 2 ^ b ≤ 4096 := Nat.pow_le_pow_right (n := 2) (by omega) hb
 have hx12 : x < 4096 := by omega
 have e := Ev.up (g := fun j k => aq.l1 k (b : Int) (cD ((l.length * b + 7) / 8) (eJ b l i + 2 ^ (b * i) * (x % 2 ^ j))) (i : Int) l[i] l (l.length : Int) (i : Int) (b : Int) (j : Int)) (r := r) b ?_ ?_ 0 (by omega)
 ·simpa [Nat.mod_one] using e
 ·intro j hj h'
  refine Ev.step (fun k => ?_) h'
  have n1 : i * b ≤ 9223372036854775807 := by clear hV hx h h12; omega
  have n2 : i * b + j ≤ 9223372036854775807 := by clear hV hx h h12; omega
  have n3 : (i * b + j) / 8 ≤ 9223372036854775807 := by clear hV hx h h12; omega
  have q0 : (i * b + j) / 8 < (l.length * b + 7) / 8 := by clear hV hx h h12; omega
  have q1 : (((i * b + j) / 8 : Nat) : Int) < (((l.length * b + 7) / 8 : Nat) : Int) := Int.ofNat_lt.mpr q0
  have j64 : j ≤ IntKind.i64.bits := by clear hV hx h h12; simp [IntKind.bits]; omega
  have jw := dz j (by clear hV hx h h12; omega)
  have e1 : wrap64 ((wrap64 ((i : Int) * (b : Int))) + (j : Int)) = ((i * b + j : Nat) : Int) := by
   have e0 : (i : Int) * (b : Int) = ((i * b : Nat) : Int) := by simp
   rw [e0, iC (i * b) n1]
   exact iC (i * b + j) n2
  have e2 : wrap64 (((i * b + j) / 8 : Nat) : Int) = (((i * b + j) / 8 : Nat) : Int) := iC _ n3
  have e3 : Go.bits .and .i64 ((x / 2 ^ j : Nat) : Int) 1 = ((x / 2 ^ j % 2 : Nat) : Int) := oz _ (Nat.lt_of_le_of_lt (Nat.div_le_self _ _) (Nat.lt_trans hx12 (by decide)))
  have e4 := pm ((l.length * b + 7) / 8) (eJ b l i) b i j x hV
  simp only [aq.l1]
  rw [e1, qn, tx, e2, Fa (Int.ofNat_lt.mpr hj), Fa (Int.natCast_nonneg _), Fa (by rw [fb]; exact q1), Fa (Int.natCast_nonneg _), Fa (Int.natCast_nonneg _), Int.toNat_natCast,
   dw _ _ (by rw [fb]; exact q0), eX, hx, lI .i64 x j j64, e3, e4, jw]
 ·refine Ev.step (f := fun k => aq.l0 k (b : Int) (cD ((l.length * b + 7) / 8) (eJ b l (i + 1))) l (l.length : Int) ((i + 1 : Nat) : Int)) (fun k => ?_) h
  simp only [aq.l1]
  rw [Ga (by omega), dz i (by omega), ku b l i hi, Nat.mod_eq_of_lt hxb, hx, Int.toNat_natCast]
theorem gF (l : List Int) (b : Nat) (hb1 : 1 ≤ b) (hb : b ≤ 12) (hl : l.length ≤ 1099511627776) (hf : l.all (gG b) = true) : Ev (fun k => aq.f k l (b : Int)) (d1 b l) := by
 have hlb : l.length * b ≤ 13194139533312 := Nat.le_trans (Nat.mul_le_mul_left _ hb) (by omega)
 have e1 : wrap64 (Int.tdiv (wrap64 ((wrap64 ((l.length : Int) * (b : Int))) + 7)) 8) = (((l.length * b + 7) / 8 : Nat) : Int) := by
  have e0 : (l.length : Int) * (b : Int) = ((l.length * b : Nat) : Int) := by simp
  rw [e0, iC (l.length * b) (by omega), show ((l.length * b : Nat) : Int) + 7 = ((l.length * b + 7 : Nat) : Int) by omega, iC (l.length * b + 7) (by omega), qn, iC ((l.length * b + 7) / 8) (by omega)]
 unfold aq.f d1
 rw [e1, Int.toNat_natCast]
 refine Ev.pos (by omega) (Ev.pos (by omega) ?_)
 rw [← oL]
 have h := Ev.up (g := fun i k => aq.l0 k (b : Int) (cD ((l.length * b + 7) / 8) (eJ b l i)) l (l.length : Int) (i : Int)) (r := strOfNums (cD ((l.length * b + 7) / 8) (eJ b l l.length))) l.length ?_ ?_ 0 (by omega)
 ·simpa [eJ, gu, pa] using h
 ·intro i hi h
  refine Ev.step (fun k => ?_) (lY l b hb1 hb hl hf i hi h)
  simp only [aq.l0]
  rw [Fa (by omega), Fa (by omega), Fa (by omega), dw l i hi]
 ·refine Ev.step (f := fun _ => some (strOfNums (cD ((l.length * b + 7) / 8) (eJ b l l.length)))) (fun k => ?_) (Ev.now _)
  simp only [aq.l0]
  rw [Ga (by omega)]
theorem sG {α : Type} {p : α → Bool} {l : List α} (h : ¬ l.all p = true) : ∃ i, ∃ h : i < l.length, p l[i] = false := by
 rw [List.all_eq_true] at h
 simp only [Classical.not_forall] at h
 obtain ⟨x, hx, hp⟩ := h
 obtain ⟨i, hi, rfl⟩ := List.mem_iff_getElem.mp hx
 exact ⟨i, hi, by simpa using hp⟩
set_option maxHeartbeats 1000000 in
theorem nI (l : List Int) (b : Nat) (hb1 : 1 ≤ b) (hb : b ≤ 12) (hl : l.length ≤ 1099511627776) (hf : l.all (gG b) = true) (i : Nat) (hi : i < l.length) {r : ByteArray × Bool}
  (h : Ev (fun k => aQ.l1 k l (b : Int) (cD (b * (i + 1) / 8) (eJ b l (i + 1))) ((eJ b l (i + 1) / 256 ^ (b * (i + 1) / 8) : Nat) : Int) ((b * (i + 1) % 8 : Nat) : Int) ((i + 1 : Nat) : Int)) r) :
  Ev (fun k => aQ.l2 k l (b : Int) (cD (b * i / 8) (eJ b l (i + 1))) ((eJ b l (i + 1) / 256 ^ (b * i / 8) : Nat) : Int) ((b * (i + 1) - 8 * (b * i / 8) : Nat) : Int) (i : Int)) r := by
 have hlb : b * l.length ≤ 13194139533312 := Nat.le_trans (Nat.mul_le_mul_right _ hb) (by omega)
 have hib : b * (i + 1) ≤ b * l.length := Nat.mul_le_mul_left _ hi
 have hbs : b * (i + 1) = b * i + b := Nat.mul_succ b i
 have hV := nF hf (i + 1) (by omega)
 refine Ev.upFrom (g := fun p k => aQ.l2 k l (b : Int) (cD p (eJ b l (i + 1))) ((eJ b l (i + 1) / 256 ^ p : Nat) : Int) ((b * (i + 1) - 8 * p : Nat) : Int) (i : Int)) (b * i / 8) (b * (i + 1) / 8) ?_ ?_ (by omega)
 ·intro p hp0 hp h'
  refine Ev.step (fun k => ?_) h'
  have hsmall : eJ b l (i + 1) / 256 ^ p < 2 ^ 20 := by
   rw [Nat.div_lt_iff_lt_mul (Nat.pow_pos (by omega)), gL, ← Nat.pow_add]
   exact Nat.lt_of_lt_of_le hV (Nat.pow_le_pow_right (by omega) (by omega))
  have e1 : Int.tmod ((eJ b l (i + 1) / 256 ^ p : Nat) : Int) 256 % 256 = ((eJ b l (i + 1) / 256 ^ p % 256 : Nat) : Int) := by
   rw [show (256 : Int) = ((256 : Nat) : Int) from rfl, mA]; omega
  have e2 : wrap64 (Int.tdiv ((eJ b l (i + 1) / 256 ^ p : Nat) : Int) 256) = ((eJ b l (i + 1) / 256 ^ (p + 1) : Nat) : Int) := by
   rw [show (256 : Int) = ((256 : Nat) : Int) from rfl, ma, Nat.pow_succ, ← Nat.div_div_eq_div_mul, iC (eJ b l (i + 1) / 256 ^ p / 256) (by omega)]
  simp only [aQ.l2]
  rw [Fa (by omega), Fa (by rw [fb]; omega), e1, e2, k9, w64 (by omega) (by omega)]
  congr 1
  omega
 ·refine Ev.step (fun k => ?_) h
  simp only [aQ.l2]
  rw [Ga (by omega), dz i (by omega)]
  congr 1
  omega
theorem oh (l : List Int) (b : Int) (hl : l.length ≤ 1099511627776) : Ev (fun k => aQ.f k l b) (qt l b) := by
 unfold aQ.f qt
 simp only [gm, Option.bind_some]
 by_cases hb : 1 ≤ b ∧ b ≤ 12
 ·refine Ev.pos (by simpa using hb) ?_
  obtain ⟨c, rfl⟩ : ∃ c : Nat, b = (c : Int) := ⟨b.toNat, by omega⟩
  rw [Int.toNat_natCast]
  have h12 : (2 : Int) ^ c ≤ 4096 := by
   have : ((2 ^ c : Nat) : Int) ≤ ((2 ^ 12 : Nat) : Int) := Int.ofNat_le.mpr (Nat.pow_le_pow_right (by omega) (by omega))
   simpa using this
  have h0 := oc c
  have es : wrap64 ((2 : Int) ^ c - 1) = 2 ^ c - 1 := w64 (by omega) (by omega)
  have e2 := gb (c : Int) (by omega)
  rw [Int.toNat_natCast] at e2
  by_cases hf : l.all (gG c) = true
  ·rw [Fa ⟨hb, hf⟩]
   refine Ev.up (g := fun i k => aQ.l0 k l (c : Int) (i : Int)) (r := (d1 c l, true)) l.length ?_ ?_ 0 (by omega)
   ·intro i hi h
    refine Ev.step (f := fun k => (ay.f k (c : Int)).bind fun t148 => ((aX.f (rd l (i : Int)) 0 (wrap64 (t148 - 1))).bind fun t149 => (if t149 = true then (aQ.l0 k l (c : Int) (wrap64 ((i : Int) + 1))) else (some ((⟨#[]⟩ : ByteArray), false))))) (fun k => ?_) ?_
    ·simp only [aQ.l0]
     rw [Fa (by omega), Fa (by omega)]
    ·refine Ev.bind e2 ?_
     simp only [es, gm, Option.bind_some]
     rw [dw l i hi, dz i (by omega)]
     exact Ev.pos (List.all_eq_true.mp hf _ (List.getElem_mem hi)) h
   ·refine Ev.step (f := fun k => aQ.l1 k l (c : Int) (([] : List Int)) 0 0 0) (fun k => ?_) ?_
    ·simp only [aQ.l0]
     rw [Ga (by omega)]
    ·have key := Ev.up (g := fun i k => aQ.l1 k l (c : Int) (cD (c * i / 8) (eJ c l i)) ((eJ c l i / 256 ^ (c * i / 8) : Nat) : Int) ((c * i % 8 : Nat) : Int) (i : Int)) (r := (d1 c l, true)) l.length ?_ ?_ 0 (by omega)
     ·simpa [eJ, gu, cD] using key
     ·intro i hi h
      have hlb : c * l.length ≤ 13194139533312 := Nat.le_trans (Nat.mul_le_mul_right l.length (show c ≤ 12 by omega)) (by omega)
      have hib : c * (i + 1) ≤ c * l.length := Nat.mul_le_mul_left _ hi
      have hbs : c * (i + 1) = c * i + c := Nat.mul_succ c i
      obtain ⟨x, hx, hxb⟩ := qi hf i hi
      have hV := nF hf i (by omega)
      have hq : eJ c l i / 256 ^ (c * i / 8) < 2 ^ (c * i % 8) := by
       rw [Nat.div_lt_iff_lt_mul (Nat.pow_pos (by omega)), gL, ← Nat.pow_add, show c * i % 8 + 8 * (c * i / 8) = c * i by omega]; exact hV
      have h128 : 2 ^ (c * i % 8) ≤ 128 := Nat.pow_le_pow_right (n := 2) (by omega) (show c * i % 8 ≤ 7 by omega)
      have h4096 : 2 ^ c ≤ 4096 := Nat.pow_le_pow_right (n := 2) (by omega) (show c ≤ 12 by omega)
      have hxc : x * 2 ^ (c * i % 8) ≤ 4096 * 128 := Nat.mul_le_mul (by omega) h128
      have ed : eJ c l (i + 1) / 256 ^ (c * i / 8) = eJ c l i / 256 ^ (c * i / 8) + x * 2 ^ (c * i % 8) := by
       have : 2 ^ (c * i) = 256 ^ (c * i / 8) * 2 ^ (c * i % 8) := by rw [gL, ← Nat.pow_add]; congr 1; omega
       rw [ku c l i hi, hx, Int.toNat_natCast, this, Nat.mul_assoc, Nat.add_mul_div_left _ _ (Nat.pow_pos (by omega)), Nat.mul_comm x]
      have eb : cD (c * i / 8) (eJ c l i) = cD (c * i / 8) (eJ c l (i + 1)) := by
       apply List.ext_getElem
       ·simp [cD]
       ·intro j h1 h2
        rw [eX, eX]
        congr 1
        have hj : j < c * i / 8 := by simpa [cD] using h1
        rw [ku c l i hi]
        obtain ⟨d, hd⟩ : ∃ d, c * i = 8 * (j + 1) + d := ⟨c * i - 8 * (j + 1), by omega⟩
        have : 2 ^ (c * i) * l[i].toNat = 256 ^ j * (256 * (2 ^ d * l[i].toNat)) := by
         rw [hd, Nat.pow_add, ← gL, Nat.pow_succ]; simp only [Nat.mul_assoc]
        rw [this, Nat.add_mul_div_left _ _ (Nat.pow_pos (by omega)), Nat.add_mul_mod_self_left]
      have e3 := gb ((c * i % 8 : Nat) : Int) (by omega)
      rw [Int.toNat_natCast] at e3
      refine Ev.step (f := fun k => (ay.f k ((c * i % 8 : Nat) : Int)).bind fun t157 => (aQ.l2 k l (c : Int) (cD (c * i / 8) (eJ c l i)) (wrap64 (((eJ c l i / 256 ^ (c * i / 8) : Nat) : Int) + (wrap64 ((rd l (i : Int)) * t157)))) (wrap64 (((c * i % 8 : Nat) : Int) + (c : Int))) (i : Int))) (fun k => ?_) (Ev.bind e3 ?_)
      ·simp only [aQ.l1]
       rw [Fa (by omega), Fa (by omega)]
      ·have h2 := nI l c (by omega) (by omega) hl hf i hi h
       have em : (x : Int) * 2 ^ (c * i % 8) = ((x * 2 ^ (c * i % 8) : Nat) : Int) := by simp
       rw [dw l i hi, hx, em, iC (x * 2 ^ (c * i % 8)) (by omega), eb, w64 (x := ((eJ c l i / 256 ^ (c * i / 8) : Nat) : Int) + ((x * 2 ^ (c * i % 8) : Nat) : Int)) (by have hA := Int.natCast_nonneg (eJ c l i / 256 ^ (c * i / 8)); have hB := Int.natCast_nonneg (x * 2 ^ (c * i % 8)); omega) (by omega), w64 (x := ((c * i % 8 : Nat) : Int) + (c : Int)) (by omega) (by omega)]
       rw [ed] at h2
       refine Ev.congr (fun k => ?_) h2
       congr 1
       omega
     ·have hlb : c * l.length ≤ 13194139533312 := Nat.le_trans (Nat.mul_le_mul_right l.length (show c ≤ 12 by omega)) (by omega)
      have hmc : l.length * c = c * l.length := Nat.mul_comm _ _
      unfold d1
      rw [← oL]
      by_cases h8 : c * l.length % 8 = 0
      ·refine Ev.step (f := fun _ => some (strOfNums (cD (c * l.length / 8) (eJ c l l.length)), true)) (fun k => ?_) ?_
       ·simp only [aQ.l1]
        rw [Ga (by omega), Ga (by omega)]
       ·rw [show (l.length * c + 7) / 8 = c * l.length / 8 by omega]; exact Ev.now _
      ·refine Ev.step (f := fun _ => some (strOfNums (cD (c * l.length / 8 + 1) (eJ c l l.length)), true)) (fun k => ?_) ?_
       ·simp only [aQ.l1]
        rw [Ga (by omega), Fa (by omega), Fa (by rw [fb]; omega), ← k9]
        rfl
       ·rw [show (l.length * c + 7) / 8 = c * l.length / 8 + 1 by omega]; exact Ev.now _
  ·rw [Ga (fun h => hf h.2)]
   obtain ⟨n, hn, hbad⟩ := sG hf
   have step : ∀ i, (hi : i < l.length) → ∀ {r : ByteArray × Bool}, Ev (fun k => if gG c l[i] = true then aQ.l0 k l (c : Int) ((i + 1 : Nat) : Int) else some ((⟨#[]⟩ : ByteArray), false)) r → Ev (fun k => aQ.l0 k l (c : Int) (i : Int)) r := by
    intro i hi r h
    refine Ev.step (f := fun k => (ay.f k (c : Int)).bind fun t148 => ((aX.f (rd l (i : Int)) 0 (wrap64 (t148 - 1))).bind fun t149 => (if t149 = true then (aQ.l0 k l (c : Int) (wrap64 ((i : Int) + 1))) else (some ((⟨#[]⟩ : ByteArray), false))))) (fun k => ?_) ?_
    ·simp only [aQ.l0]
     rw [Fa (by omega), Fa (by omega)]
    ·refine Ev.bind e2 ?_
     simp only [es, gm, Option.bind_some]
     rw [dw l i hi, dz i (by omega)]
     exact h
   refine Ev.up (g := fun i k => aQ.l0 k l (c : Int) (i : Int)) n ?_ (step n hn (Ev.neg (by rw [hbad]; decide) (Ev.now _))) 0 (by omega)
   intro i hi h
   refine step i (by omega) ?_
   by_cases hfi : gG c (l[i]'(by omega)) = true
   ·exact Ev.pos hfi h
   ·exact Ev.neg hfi (Ev.now _)
 ·rw [Ga (fun h => hb h.1)]
  exact Ev.neg (by simpa using hb) (Ev.now _)
def cS (b S n : Nat) : List Int := (List.range n).map fun i => ((S / 2 ^ (b * i) % 2 ^ b : Nat) : Int)
theorem eD (b S n : Nat) : (cS b S n).length = n := by simp [cS]
theorem pY (b S n i : Nat) (h : i < (cS b S n).length) : (cS b S n)[i] = ((S / 2 ^ (b * i) % 2 ^ b : Nat) : Int) := by simp [cS]
theorem kU (b S n : Nat) : cS b S (n + 1) = cS b S n ++ [((S / 2 ^ (b * n) % 2 ^ b : Nat) : Int)] := by simp [cS, List.range_succ]
theorem pC (b S n : Nat) : (cS b S n).all (gG b) = true := by
 rw [List.all_eq_true]
 intro x hx
 obtain ⟨i, _, rfl⟩ := List.mem_map.mp hx
 refine ya ⟨by omega, ?_⟩
 have h1 : S / 2 ^ (b * i) % 2 ^ b < 2 ^ b := Nat.mod_lt _ (Nat.two_pow_pos b)
 have h3 : ((2 ^ b : Nat) : Int) = (2 : Int) ^ b := by simp
 omega
theorem pr (b S n : Nat) : ja (cS b S n) = (List.range n).map fun i => S / 2 ^ (b * i) % 2 ^ b := by
 unfold ja cS
 rw [List.map_map]
 exact List.map_congr_left fun i _ => Int.toNat_natCast _
theorem mc (b S n : Nat) : gu b (ja (cS b S n)) = S % 2 ^ (b * n) := by rw [pr, ov]
def dN (s : ByteArray) (b n : Int) : List Int × Bool :=
 if (1 ≤ b ∧ b ≤ 12) ∧ (0 ≤ n ∧ n ≤ 1000) ∧ s.size = (n.toNat * b.toNat + 7) / 8 then
  if dj s < 2 ^ (b.toNat * n.toNat) then (cS b.toNat (dj s) n.toNat, true) else ([], false)
 else ([], false)
theorem oM (S m u : Nat) (h : u ≤ m) : S % 2 ^ m / 2 ^ u = S / 2 ^ u % 2 ^ (m - u) := by
 rw [show (2 : Nat) ^ m = 2 ^ u * 2 ^ (m - u) by rw [← Nat.pow_add]; congr 1; omega, Nat.mod_mul_right_div_self]
theorem oU (S m u b : Nat) (h : u + b ≤ m) : S % 2 ^ m / 2 ^ u % 2 ^ b = S / 2 ^ u % 2 ^ b := by
 rw [oM S m u (by omega), Nat.mod_mod_of_dvd _ (Nat.pow_dvd_pow 2 (by omega))]
theorem rj {n b : Nat} (hn : n ≤ 1000) (hb : b ≤ 12) : wrap64 (Int.tdiv (wrap64 ((wrap64 ((n : Int) * (b : Int))) + 7)) 8) = (((n * b + 7) / 8 : Nat) : Int) := by
 have h : n * b ≤ 1000 * 12 := Nat.mul_le_mul hn hb
 have e0 : (n : Int) * (b : Int) = ((n * b : Nat) : Int) := by simp
 rw [e0, iC (n * b) (by omega), show ((n * b : Nat) : Int) + 7 = ((n * b + 7 : Nat) : Int) by omega, iC (n * b + 7) (by omega), qn, iC ((n * b + 7) / 8) (by omega)]
set_option maxHeartbeats 1000000 in
theorem lU (s : ByteArray) (b n : Nat) (hb1 : 1 ≤ b) (hb : b ≤ 12) (hn : n ≤ 1000) (hs : s.size = (n * b + 7) / 8) (i : Nat) (hi : i < n) {r : List Int × Bool}
  (h : Ev (fun k => av.l0 k s (b : Int) (n : Int) (cS b (dj s) (i + 1)) ((dj s % 2 ^ (8 * ((b * (i + 1) + 7) / 8)) / 2 ^ (b * (i + 1)) : Nat) : Int) ((8 * ((b * (i + 1) + 7) / 8) - b * (i + 1) : Nat) : Int) (((b * (i + 1) + 7) / 8 : Nat) : Int) ((i + 1 : Nat) : Int)) r) :
  Ev (fun k => av.l1 k s (b : Int) (n : Int) (cS b (dj s) i) ((dj s % 2 ^ (8 * ((b * i + 7) / 8)) / 2 ^ (b * i) : Nat) : Int) ((8 * ((b * i + 7) / 8) - b * i : Nat) : Int) (((b * i + 7) / 8 : Nat) : Int) (i : Int)) r := by
 have hbn : b * n ≤ 12 * 1000 := Nat.mul_le_mul hb hn
 have hib : b * (i + 1) ≤ b * n := Nat.mul_le_mul_left _ hi
 have hbs : b * (i + 1) = b * i + b := Nat.mul_succ b i
 have hmc : n * b = b * n := Nat.mul_comm _ _
 have e2 := gb (b : Int) (by omega)
 rw [Int.toNat_natCast] at e2
 have small : ∀ p, p ≤ (b * (i + 1) + 7) / 8 → dj s % 2 ^ (8 * p) / 2 ^ (b * i) < 2 ^ 20 := by
  intro p hp
  rw [Nat.div_lt_iff_lt_mul (Nat.two_pow_pos _), ← Nat.pow_add]
  exact Nat.lt_of_lt_of_le (Nat.mod_lt _ (Nat.two_pow_pos _)) (Nat.pow_le_pow_right (by omega) (by omega))
 refine Ev.upFrom (g := fun p k => av.l1 k s (b : Int) (n : Int) (cS b (dj s) i) ((dj s % 2 ^ (8 * p) / 2 ^ (b * i) : Nat) : Int) ((8 * p - b * i : Nat) : Int) (p : Int) (i : Int)) ((b * i + 7) / 8) ((b * (i + 1) + 7) / 8) ?_ ?_ (by omega)
 ·intro p hp0 hp h'
  have e3 := gb ((8 * p - b * i : Nat) : Int) (by omega)
  rw [Int.toNat_natCast] at e3
  refine Ev.step (f := fun k => (ay.f k ((8 * p - b * i : Nat) : Int)).bind fun t193 => (av.l1 k s (b : Int) (n : Int) (cS b (dj s) i) (wrap64 (((dj s % 2 ^ (8 * p) / 2 ^ (b * i) : Nat) : Int) + (wrap64 ((wrap64 (bt s (p : Int))) * t193)))) (wrap64 (((8 * p - b * i : Nat) : Int) + 8)) (wrap64 ((p : Int) + 1)) (i : Int))) (fun k => ?_) (Ev.bind e3 ?_)
  ·simp only [av.l1]
   rw [Fa (by omega), Fa (by omega), Fa (by omega)]
  ·have hsm := small (p + 1) (by omega)
   have eS : dj s % 2 ^ (8 * (p + 1)) / 2 ^ (b * i) = dj s % 2 ^ (8 * p) / 2 ^ (b * i) + dj s / 256 ^ p % 256 * 2 ^ (8 * p - b * i) := by
    rw [show 8 * (p + 1) = 8 * p + 8 by omega, Nat.pow_add, Nat.mod_mul, show (2 : Nat) ^ (8 * p) = 2 ^ (b * i) * 2 ^ (8 * p - b * i) by rw [← Nat.pow_add]; congr 1; omega]
    rw [Nat.mul_assoc (2 ^ (b * i)), Nat.add_mul_div_left _ _ (Nat.two_pow_pos _), ← Nat.pow_add, show b * i + (8 * p - b * i) = 8 * p by omega, ← gL, Nat.mul_comm (2 ^ (8 * p - b * i))]
   rw [lL s p (by omega), iC (dj s / 256 ^ p % 256) (by omega)]
   have em : ((dj s / 256 ^ p % 256 : Nat) : Int) * 2 ^ (8 * p - b * i) = ((dj s / 256 ^ p % 256 * 2 ^ (8 * p - b * i) : Nat) : Int) := by simp
   have hA := Int.natCast_nonneg (dj s % 2 ^ (8 * p) / 2 ^ (b * i))
   have hB := Int.natCast_nonneg (dj s / 256 ^ p % 256 * 2 ^ (8 * p - b * i))
   rw [em, iC (dj s / 256 ^ p % 256 * 2 ^ (8 * p - b * i)) (by omega), dz p (by omega)]
   rw [w64 (x := ((dj s % 2 ^ (8 * p) / 2 ^ (b * i) : Nat) : Int) + ((dj s / 256 ^ p % 256 * 2 ^ (8 * p - b * i) : Nat) : Int)) (by omega) (by omega), w64 (x := ((8 * p - b * i : Nat) : Int) + 8) (by omega) (by omega)]
   rw [eS] at h'
   refine Ev.congr (fun k => ?_) h'
   congr 1
   omega
 ·have hsm := small ((b * (i + 1) + 7) / 8) (by omega)
  have h12 : (2 : Int) ^ b ≤ 4096 := by
   have : ((2 ^ b : Nat) : Int) ≤ ((2 ^ 12 : Nat) : Int) := Int.ofNat_le.mpr (Nat.pow_le_pow_right (by omega) (by omega))
   simpa using this
  have h0 := oc b
  refine Ev.step (f := fun k => ((ay.f k (b : Int)).bind fun t194 => (if t194 = 0 then (none) else (if (cS b (dj s) i).length < 17592186044416 then ((ay.f k (b : Int)).bind fun t198 => (if t198 = 0 then (none) else (av.l0 k s (b : Int) (n : Int) (cS b (dj s) i ++ [Int.tmod ((dj s % 2 ^ (8 * ((b * (i + 1) + 7) / 8)) / 2 ^ (b * i) : Nat) : Int) t194]) (wrap64 (Int.tdiv ((dj s % 2 ^ (8 * ((b * (i + 1) + 7) / 8)) / 2 ^ (b * i) : Nat) : Int) t198)) (wrap64 (((8 * ((b * (i + 1) + 7) / 8) - b * i : Nat) : Int) - (b : Int))) ((((b * (i + 1) + 7) / 8 : Nat) : Int)) (wrap64 ((i : Int) + 1))))) else (none))))) (fun k => ?_) ?_
  ·simp only [av.l1]
   rw [Ga (by omega)]
  ·refine Ev.bind e2 (Ev.neg (by omega) (Ev.pos (by rw [eD]; omega) (Ev.bind e2 (Ev.neg (by omega) ?_))))
   have ec : (2 : Int) ^ b = ((2 ^ b : Nat) : Int) := by simp
   rw [ec, mA, ma, oU _ _ _ _ (by omega), ← kU, Nat.div_div_eq_div_mul, ← Nat.pow_add, ← hbs, iC (dj s % 2 ^ (8 * ((b * (i + 1) + 7) / 8)) / 2 ^ (b * (i + 1))) (by
    have : dj s % 2 ^ (8 * ((b * (i + 1) + 7) / 8)) / 2 ^ (b * (i + 1)) ≤ dj s % 2 ^ (8 * ((b * (i + 1) + 7) / 8)) / 2 ^ (b * i) := Nat.div_le_div_left (Nat.pow_le_pow_right (by omega) (by omega)) (Nat.two_pow_pos _)
    omega), w64 (x := ((8 * ((b * (i + 1) + 7) / 8) - b * i : Nat) : Int) - (b : Int)) (by omega) (by omega), dz i (by omega)]
   refine Ev.congr (fun k => ?_) h
   congr 1
   omega
theorem jk (s : ByteArray) (b n : Int) : Ev (fun k => av.f k s b n) (dN s b n) := by
 unfold av.f dN
 simp only [gm, Option.bind_some]
 have bad : Ev (fun k => av.j0 k s b n [] true) (([] : List Int), false) := by
  refine Ev.step (f := fun _ => some ([], false)) (fun k => ?_) (Ev.now _)
  simp only [av.j0, if_true]
 by_cases hb : 1 ≤ b ∧ b ≤ 12
 ·refine Ev.pos (by simpa using hb) ?_
  by_cases hn : 0 ≤ n ∧ n ≤ 1000
  ·refine Ev.pos (by simpa using hn) ?_
   obtain ⟨c, rfl⟩ : ∃ c : Nat, b = (c : Int) := ⟨b.toNat, by omega⟩
   obtain ⟨m, rfl⟩ : ∃ c : Nat, n = (c : Int) := ⟨n.toNat, by omega⟩
   rw [Int.toNat_natCast, Int.toNat_natCast, rj (by omega) (by omega)]
   by_cases hs : s.size = (m * c + 7) / 8
   ·rw [Fa ⟨hb, hn, hs⟩, show (((s.size : Int) != (((m * c + 7) / 8 : Nat) : Int)) = false) by rw [bne_eq_false_iff_eq, hs]]
    have hmc : m * c = c * m := Nat.mul_comm _ _
    refine Ev.step (f := fun k => av.l0 k s (c : Int) (m : Int) [] 0 0 0 0) (fun k => ?_) ?_
    ·simp only [av.j0]
     rw [Ga (by decide)]
    ·have key := Ev.up (g := fun i k => av.l0 k s (c : Int) (m : Int) (cS c (dj s) i) ((dj s % 2 ^ (8 * ((c * i + 7) / 8)) / 2 ^ (c * i) : Nat) : Int) ((8 * ((c * i + 7) / 8) - c * i : Nat) : Int) (((c * i + 7) / 8 : Nat) : Int) (i : Int)) (r := if dj s < 2 ^ (c * m) then (cS c (dj s) m, true) else ([], false)) m ?_ ?_ 0 (by omega)
     ·simpa [cS, Nat.mod_one] using key
     ·intro i hi h
      refine Ev.step (fun k => ?_) (lU s c m (by omega) (by omega) (by omega) hs i hi h)
      simp only [av.l0]
      rw [Fa (by omega)]
     ·have hlt := kb s
      rw [gL, hs, hmc] at hlt
      have e1 : dj s % 2 ^ (8 * ((c * m + 7) / 8)) = dj s := Nat.mod_eq_of_lt hlt
      by_cases hq : dj s < 2 ^ (c * m)
      ·rw [Fa hq]
       refine Ev.step (f := fun _ => some (cS c (dj s) m, true)) (fun k => ?_) (Ev.now _)
       simp only [av.l0]
       rw [Ga (by omega), Fa (by rw [e1, Nat.div_eq_of_lt hq]; rfl)]
      ·rw [Ga hq]
       refine Ev.step (f := fun _ => some ([], false)) (fun k => ?_) (Ev.now _)
       simp only [av.l0]
       have h2 : 0 < dj s / 2 ^ (c * m) := Nat.div_pos (by omega) (Nat.two_pow_pos _)
       rw [Ga (by omega), Ga (by rw [e1]; omega)]
   ·rw [Ga (fun h => hs h.2.2), show (((s.size : Int) != (((m * c + 7) / 8 : Nat) : Int)) = true) by rw [bne_iff_ne]; omega]
    exact bad
  ·rw [Ga (fun h => hn h.2.1)]
   exact Ev.neg (by simpa using hn) bad
 ·rw [Ga (fun h => hb h.1)]
  exact Ev.neg (by simpa using hb) bad
theorem pl (a t b : Nat) (ha : a < 2 ^ t) (ht : t ≤ 60) (hb : b ≤ 1) : Go.bits .or .i64 (a : Int) ((b * 2 ^ t : Nat) : Int) = ((a + b * 2 ^ t : Nat) : Int) := by
 have h7 : 2 ^ t ≤ 2 ^ 60 := Nat.pow_le_pow_right (n := 2) (by omega) ht
 have hb2 : b * 2 ^ t ≤ 2 ^ t := by
  have := Nat.mul_le_mul_right (2 ^ t) hb
  omega
 rw [(bits_nat .i64 62 (by decide) (fun n h0 h1 => by rw [IntKind.wrap_i64]; omega) a (b * 2 ^ t) (by omega) (by omega)).2, Nat.or_comm, Nat.mul_comm b, ← Nat.two_pow_add_eq_or_of_lt ha b, Nat.add_comm]
theorem qu (S m : Nat) : S / 256 ^ (m / 8) % 256 / 2 ^ (m % 8) % 2 = S / 2 ^ m % 2 := by
 have h1 : (256 : Nat) = 2 ^ (m % 8) * 2 ^ (8 - m % 8) := by rw [← Nat.pow_add, show m % 8 + (8 - m % 8) = 8 by omega]
 have h2 : (2 : Nat) ^ (8 - m % 8) = 2 * 2 ^ (7 - m % 8) := by rw [show 8 - m % 8 = (7 - m % 8) + 1 by omega, Nat.pow_succ, Nat.mul_comm]
 conv => lhs; rw [show S / 256 ^ (m / 8) % 256 = S / 256 ^ (m / 8) % (2 ^ (m % 8) * 2 ^ (8 - m % 8)) by rw [← h1]]
 rw [Nat.mod_mul_right_div_self, h2, Nat.mod_mul_right_mod, Nat.div_div_eq_div_mul, gL, ← Nat.pow_add, show 8 * (m / 8) + m % 8 = m by omega]
theorem uh (i c j : Nat) (h : c * i + j ≤ 4611686018427387904) : wrap64 ((wrap64 ((i : Int) * (c : Int))) + (j : Int)) = ((c * i + j : Nat) : Int) := by
 have e0 : (i : Int) * (c : Int) = ((c * i : Nat) : Int) := by rw [Nat.mul_comm]; simp
 rw [e0, iC (c * i) (by omega)]
 exact iC (c * i + j) (by omega)
theorem pp (S b i j : Nat) (hj : j ≤ 12) :
  Go.bits .or .i64 ((S / 2 ^ (b * i) % 2 ^ j : Nat) : Int) (shl .i64 (wrap64 (Go.bits .and .u8 (shr .u8 ((S / 256 ^ ((b * i + j) / 8) % 256 : Nat) : Int) (((b * i + j) % 8 : Nat) : Int)) 1)) (j : Int)) = ((S / 2 ^ (b * i) % 2 ^ (j + 1) : Nat) : Int) := by
 have e1 : shr .u8 ((S / 256 ^ ((b * i + j) / 8) % 256 : Nat) : Int) (((b * i + j) % 8 : Nat) : Int) = ((S / 256 ^ ((b * i + j) / 8) % 256 / 2 ^ ((b * i + j) % 8) : Nat) : Int) := lI .u8 _ _ (by simp [IntKind.bits]; omega)
 rw [e1, qj _ (Nat.lt_of_le_of_lt (Nat.div_le_self _ _) (Nat.mod_lt _ (by omega))), qu, kt, Nat.div_div_eq_div_mul, ← Nat.pow_add]
 have hlo : S / 2 ^ (b * i) % 2 ^ j < 2 ^ j := Nat.mod_lt _ (Nat.two_pow_pos j)
 have h12 : 2 ^ j ≤ 4096 := Nat.pow_le_pow_right (n := 2) (by omega) hj
 obtain ⟨u, hu⟩ : ∃ u, S / 2 ^ (b * i + j) % 2 = u := ⟨_, rfl⟩
 have hu1 : u ≤ 1 := by omega
 obtain ⟨q, hq⟩ : ∃ q, S / 2 ^ (b * i) % 2 ^ j = q := ⟨_, rfl⟩
 rw [hu, hq]
 rw [hq] at hlo
 have hb2 : u * 2 ^ j ≤ 4096 := Nat.le_trans (Nat.mul_le_mul_right (2 ^ j) hu1) (by omega)
 have hsh : shl .i64 (u : Int) (j : Int) = ((u * 2 ^ j : Nat) : Int) := by
  rw [pf _ _ (by omega), Int.toNat_natCast]
  have em : (u : Int) * 2 ^ j = ((u * 2 ^ j : Nat) : Int) := by simp
  rw [em, iC (u * 2 ^ j) (by omega)]
 rw [iC u (by omega), hsh, pl q j u hlo (by omega) hu1, Nat.mul_comm u]
theorem fP (s : ByteArray) (b n : Int) : Ev (fun k => ar.f k s b n) (dN s b n) := by
 unfold ar.f dN
 simp only [nw, Option.bind_some]
 have bad : Ev (fun k => ar.j0 k s b n true) (([] : List Int), false) := by
  refine Ev.step (f := fun _ => some ([], false)) (fun k => ?_) (Ev.now _)
  simp only [ar.j0, if_true]
 by_cases hb : 1 ≤ b ∧ b ≤ 12
 ·refine Ev.pos (by simpa using hb) ?_
  by_cases hn : 0 ≤ n ∧ n ≤ 1000
  ·refine Ev.pos (by simpa using hn) ?_
   obtain ⟨c, rfl⟩ : ∃ c : Nat, b = (c : Int) := ⟨b.toNat, by omega⟩
   obtain ⟨m, rfl⟩ : ∃ c : Nat, n = (c : Int) := ⟨n.toNat, by omega⟩
   rw [Int.toNat_natCast, Int.toNat_natCast, rj (by omega) (by omega)]
   by_cases hs : s.size = (m * c + 7) / 8
   ·rw [Fa ⟨hb, hn, hs⟩, show (((s.size : Int) != (((m * c + 7) / 8 : Nat) : Int)) = false) by rw [bne_eq_false_iff_eq, hs]]
    have hmc : m * c = c * m := Nat.mul_comm _ _
    have hbn : c * m ≤ 12 * 1000 := Nat.mul_le_mul (by omega) (by omega)
    refine Ev.step (f := fun k => ar.l0 k s (c : Int) [] (m : Int) 0) (fun k => ?_) ?_
    ·simp only [ar.j0]
     rw [Ga (by decide)]
    ·refine Ev.up (g := fun i k => ar.l0 k s (c : Int) (cS c (dj s) i) (m : Int) (i : Int)) (r := if dj s < 2 ^ (c * m) then (cS c (dj s) m, true) else ([], false)) m ?_ ?_ 0 (by omega)
     ·intro i hi h
      have hib : c * (i + 1) ≤ c * m := Nat.mul_le_mul_left _ hi
      have hbs : c * (i + 1) = c * i + c := Nat.mul_succ c i
      have hic : i * c = c * i := Nat.mul_comm _ _
      refine Ev.step (f := fun k => ar.l1 k s (c : Int) (cS c (dj s) i) (i : Int) 0 (m : Int) (i : Int) (c : Int) 0) (fun k => ?_) ?_
      ·simp only [ar.l0]
       rw [Fa (by omega)]
      ·have key := Ev.up (g := fun j k => ar.l1 k s (c : Int) (cS c (dj s) i) (i : Int) ((dj s / 2 ^ (c * i) % 2 ^ j : Nat) : Int) (m : Int) (i : Int) (c : Int) (j : Int)) (r := if dj s < 2 ^ (c * m) then (cS c (dj s) m, true) else ([], false)) c ?_ ?_ 0 (by omega)
       ·simpa [Nat.mod_one] using key
       ·intro j hj h'
        refine Ev.step (fun k => ?_) h'
        have n1 : c * i + j ≤ 4611686018427387904 := by omega
        have q0 : (c * i + j) / 8 < s.size := by omega
        have j12 : j ≤ 12 := by omega
        have n3 : (c * i + j) / 8 ≤ 9223372036854775807 := by omega
        have jw := dz j (by omega)
        have e1 := uh i c j n1
        have e2 : wrap64 (((c * i + j) / 8 : Nat) : Int) = (((c * i + j) / 8 : Nat) : Int) := iC _ n3
        have e3 := lL s ((c * i + j) / 8) q0
        have e4 := pp (dj s) c i j j12
        simp only [ar.l1]
        rw [e1, qn, tx, e2, Fa (Int.ofNat_lt.mpr hj), Fa (Int.natCast_nonneg _), Fa (Int.ofNat_lt.mpr q0), Fa (Int.natCast_nonneg _), Fa (Int.natCast_nonneg _), e3, e4, jw]
       ·refine Ev.step (fun k => ?_) h
        simp only [ar.l1]
        rw [Ga (by omega), Fa (by rw [eD]; omega), dz i (by omega), ← kU]
     ·have hlt := kb s
      have hpk : d1 c (cS c (dj s) m) = strOfNums (cD s.size (dj s % 2 ^ (c * m))) := by
       unfold d1
       rw [eD, mc, hs]
      have hp := gF (cS c (dj s) m) c (by omega) (by omega) (by rw [eD]; omega) (pC _ _ _)
      rw [hpk] at hp
      refine Ev.step (f := fun k => (aq.f k (cS c (dj s) m) (c : Int)).bind fun t125 => (if t125.toList = s.toList then (some (cS c (dj s) m, true)) else (some (([] : List Int), false)))) (fun k => ?_) (Ev.bind hp ?_)
      ·simp only [ar.l0]
       rw [Ga (by omega)]
      ·by_cases hq : dj s < 2 ^ (c * m)
       ·rw [Fa hq]
        refine Ev.pos ?_ (Ev.now _)
        rw [Nat.mod_eq_of_lt hq, iy]
       ·rw [Ga hq]
        refine Ev.neg (fun h => hq ?_) (Ev.now _)
        rw [oo] at h
        have h2 : strOfNums (cD s.size (dj s % 2 ^ (c * m))) = strOfNums (cD s.size (dj s)) := h.trans (iy s).symm
        have h3 := nh (Nat.lt_of_le_of_lt (Nat.mod_le _ _) hlt) hlt h2
        rw [← h3]
        exact Nat.mod_lt _ (Nat.two_pow_pos _)
   ·rw [Ga (fun h => hs h.2.2), show (((s.size : Int) != (((m * c + 7) / 8 : Nat) : Int)) = true) by rw [bne_iff_ne]; omega]
    exact bad
  ·rw [Ga (fun h => hn h.2.1)]
   exact Ev.neg (by simpa using hn) bad
 ·rw [Ga (fun h => hb h.1)]
  exact Ev.neg (by simpa using hb) bad
def ca (l : List Int) : ByteArray := if bW l = true then d1 12 l else ⟨#[]⟩
def cY (s : ByteArray) : List Int × Bool := if (dN s 12 256).2 = true ∧ bW (dN s 12 256).1 = true then ((dN s 12 256).1, true) else ([], false)
theorem jr {l : List Int} (h : bW l = true) : l.all (gG 12) = true := by
 rw [List.all_eq_true]
 intro x hx
 have := mD h hx
 exact ya ⟨this.1, by omega⟩
theorem pv {l : List Int} (h : bW l = true) : qt l 12 = (d1 12 l, true) := by
 unfold qt
 rw [Fa ⟨by omega, jr h⟩]
 rfl
theorem gq (s : ByteArray) (b n : Int) : (dN s b n).1.length ≤ 1000 := by
 unfold dN
 split
 ·split
  ·rw [eD]; omega
  ·simp
 ·simp
theorem ia (s : ByteArray) : Ev (fun k => cv.f k s) (cY s) := by
 unfold cv.f cY
 refine Ev.bind (jk s 12 256) ?_
 by_cases h : (dN s 12 256).2 = true
 ·refine Ev.pos h (Ev.bind (cR _) ?_)
  by_cases h2 : bW (dN s 12 256).1 = true
  ·refine Ev.pos h2 ?_
   rw [Fa ⟨h, h2⟩]; exact Ev.now _
  ·refine Ev.neg h2 ?_
   rw [Ga (fun h3 => h2 h3.2)]; exact Ev.now _
 ·rw [Ga (fun h3 => h h3.1)]
  exact Ev.neg h (Ev.now _)
theorem ig (s : ByteArray) : Ev (fun k => cu.f k s) (cY s) := by
 unfold cu.f cY
 refine Ev.bind (fP s 12 256) ?_
 by_cases h : (dN s 12 256).2 = true
 ·refine Ev.pos h (Ev.bind (dn _ (by have := gq s 12 256; omega)) ?_)
  by_cases h2 : bW (dN s 12 256).1 = true
  ·refine Ev.pos h2 ?_
   rw [Fa ⟨h, h2⟩]; exact Ev.now _
  ·refine Ev.neg h2 ?_
   rw [Ga (fun h3 => h2 h3.2)]; exact Ev.now _
 ·rw [Ga (fun h3 => h h3.1)]
  exact Ev.neg h (Ev.now _)
theorem gZ (l : List Int) : Ev (fun k => cq.f k l) (ca l) := by
 unfold cq.f ca
 refine Ev.bind (cR l) ?_
 by_cases h : bW l = true
 ·have hl := fo h
  refine Ev.pos h ?_
  have := oh l 12 (by omega)
  rw [pv h] at this
  rw [Fa h]
  exact Ev.bind this (Ev.now _)
 ·rw [Ga h]
  exact Ev.neg h (Ev.now _)
theorem gQ (l : List Int) (hl : l.length ≤ 35184372088832) : Ev (fun k => cp.f k l) (ca l) := by
 unfold cp.f ca
 refine Ev.bind (dn l hl) ?_
 by_cases h : bW l = true
 ·have hl := fo h
  refine Ev.pos h ?_
  rw [Fa h]
  exact Ev.bind (gF l 12 (by omega) (by omega) (by omega) (jr h)) (Ev.now _)
 ·rw [Ga h]
  exact Ev.neg h (Ev.now _)
theorem EqQ.pow {x y : Int} (h : EqQ x y) (n : Nat) : EqQ (x ^ n) (y ^ n) := by
 induction n with
 | zero => rw [Int.pow_zero, Int.pow_zero]; exact EqQ.refl _
 | succ n ih => rw [Int.pow_succ, Int.pow_succ]; exact EqQ.mul ih h
theorem j8 (b : Int) (e : Nat) : b ^ e = (b * b) ^ (e / 2) * b ^ (e % 2) := by
 have h1 : ∀ n : Nat, (b * b) ^ n = b ^ (2 * n) := by
  intro n
  induction n with
  | zero => rw [Nat.mul_zero, Int.pow_zero, Int.pow_zero]
  | succ n ih => rw [Int.pow_succ, ih, show 2 * (n + 1) = 2 * n + 1 + 1 by omega, Int.pow_succ, Int.pow_succ, Int.mul_assoc]
 rw [h1, ← Int.pow_add]
 congr 1
 omega
def pw (b : Int) (e : Nat) : Int := b ^ e % 3329
theorem tq (b : Int) (e : Nat) : 0 ≤ pw b e ∧ pw b e ≤ 3328 := eC _
theorem jp {x y : Int} (hx : 0 ≤ x ∧ x ≤ 3328) (hy : 0 ≤ y ∧ y ≤ 3328) : Int.tmod (wrap64 (x * y)) 3329 = x * y % 3329 := by
 have := fV hx hy
 rw [w64 (x := x * y) (by omega) (by omega), Int.tmod_eq_emod_of_nonneg (by omega)]
theorem jS (e : Nat) (h : e ≤ 1000000000) : wrap64 (Int.tdiv (e : Int) 2) = ((e / 2 : Nat) : Int) := by
 rw [Int.tdiv_eq_ediv_of_nonneg (by omega), w64 (by omega) (by omega)]; rfl
theorem mY (e : Nat) : Int.tmod (e : Int) 2 = ((e % 2 : Nat) : Int) := by
 rw [Int.tmod_eq_emod_of_nonneg (by omega)]; rfl
theorem nT (d : Nat) : ∀ (e : Nat) (b out : Int), e ≤ d → e ≤ 1000000000 → 0 ≤ b ∧ b ≤ 3328 → 0 ≤ out ∧ out ≤ 3328 → Ev (fun k => bF.l0 k b (e : Int) out) (out * b ^ e % 3329) := by
 induction d with
 | zero =>
  intro e b out hd _ hb ho
  obtain rfl : e = 0 := by omega
  refine Ev.step (f := fun _ => some (out * b ^ 0 % 3329)) (fun k => ?_) (Ev.now _)
  simp only [bF.l0]
  rw [Ga (by omega), Int.pow_zero, Int.mul_one, Int.emod_eq_of_lt ho.1 (by omega)]
 | succ d ih =>
  intro e b out hd he hb ho
  by_cases h0 : e = 0
  ·subst h0
   refine Ev.step (f := fun _ => some (out * b ^ 0 % 3329)) (fun k => ?_) (Ev.now _)
   simp only [bF.l0]
   rw [Ga (by omega), Int.pow_zero, Int.mul_one, Int.emod_eq_of_lt ho.1 (by omega)]
  ·by_cases h1 : e % 2 = 1
   ·have h := ih (e / 2) (b * b % 3329) (out * b % 3329) (by omega) (by omega) (eC _) (eC _)
    have e1 : out * b % 3329 * (b * b % 3329) ^ (e / 2) % 3329 = out * b ^ e % 3329 := by
     refine EqQ.eqm ?_
     refine (EqQ.mul (EqQ.mod _) (EqQ.pow (EqQ.mod _) _)).trans (EqQ.of ?_)
     rw [j8 b e, h1, Int.pow_one, Int.mul_assoc, Int.mul_comm b]
    rw [e1] at h
    refine Ev.step (fun k => ?_) h
    simp only [bF.l0]
    rw [Fa (by omega), mY, Fa (by omega), jp hb hb, jp ho hb, jS e he]
   ·have h := ih (e / 2) (b * b % 3329) out (by omega) (by omega) (eC _) ho
    have e1 : out * (b * b % 3329) ^ (e / 2) % 3329 = out * b ^ e % 3329 := by
     refine EqQ.eqm ?_
     refine (EqQ.mul (EqQ.refl _) (EqQ.pow (EqQ.mod _) _)).trans (EqQ.of ?_)
     rw [j8 b e, show e % 2 = 0 by omega, Int.pow_zero, Int.mul_one]
    rw [e1] at h
    refine Ev.step (fun k => ?_) h
    simp only [bF.l0]
    rw [Fa (by omega), mY, Ga (by omega), jp hb hb, jS e he]
theorem nV (d : Nat) : ∀ (e : Nat) (b out : Int), e ≤ d → e ≤ 1000000000 → 0 ≤ b ∧ b ≤ 3328 → 0 ≤ out ∧ out ≤ 3328 → Ev (fun k => bn.l0 k b (e : Int) out) (out * b ^ e % 3329) := by
 induction d with
 | zero =>
  intro e b out hd _ hb ho
  obtain rfl : e = 0 := by omega
  refine Ev.step (f := fun _ => some (out * b ^ 0 % 3329)) (fun k => ?_) (Ev.now _)
  simp only [bn.l0]
  rw [Ga (by omega), Int.pow_zero, Int.mul_one, Int.emod_eq_of_lt ho.1 (by omega)]
 | succ d ih =>
  intro e b out hd he hb ho
  by_cases h0 : e = 0
  ·subst h0
   refine Ev.step (f := fun _ => some (out * b ^ 0 % 3329)) (fun k => ?_) (Ev.now _)
   simp only [bn.l0]
   rw [Ga (by omega), Int.pow_zero, Int.mul_one, Int.emod_eq_of_lt ho.1 (by omega)]
  ·by_cases h1 : e % 2 = 1
   ·have h := ih (e / 2) (b * b % 3329) (out * b % 3329) (by omega) (by omega) (eC _) (eC _)
    have e1 : out * b % 3329 * (b * b % 3329) ^ (e / 2) % 3329 = out * b ^ e % 3329 := by
     refine EqQ.eqm ?_
     refine (EqQ.mul (EqQ.mod _) (EqQ.pow (EqQ.mod _) _)).trans (EqQ.of ?_)
     rw [j8 b e, h1, Int.pow_one, Int.mul_assoc, Int.mul_comm b]
    rw [e1] at h
    refine Ev.step (fun k => ?_) h
    simp only [bn.l0]
    rw [Fa (by omega), mY, Fa (by omega), jp hb hb, jp ho hb, jS e he]
   ·have h := ih (e / 2) (b * b % 3329) out (by omega) (by omega) (eC _) ho
    have e1 : out * (b * b % 3329) ^ (e / 2) % 3329 = out * b ^ e % 3329 := by
     refine EqQ.eqm ?_
     refine (EqQ.mul (EqQ.refl _) (EqQ.pow (EqQ.mod _) _)).trans (EqQ.of ?_)
     rw [j8 b e, show e % 2 = 0 by omega, Int.pow_zero, Int.mul_one]
    rw [e1] at h
    refine Ev.step (fun k => ?_) h
    simp only [bn.l0]
    rw [Fa (by omega), mY, Ga (by omega), jp hb hb, jS e he]
theorem iJ (b : Int) (hb : 0 ≤ b ∧ b ≤ 3328) (e : Nat) (he : e ≤ 1000000000) : Ev (fun k => bF.f k b (e : Int)) (pw b e) := by
 unfold bF.f
 simp only [nw, Option.bind_some]
 refine Ev.pos (ya ⟨by omega, by omega⟩) (Ev.then (gg b (by omega) (by omega)) ?_)
 have h := nT e e b 1 (Ca _) he hb (by omega)
 rw [Int.one_mul] at h
 rw [Int.emod_eq_of_lt hb.1 (by omega)]
 exact h
theorem iE (b : Int) (hb : 0 ≤ b ∧ b ≤ 3328) (e : Nat) (he : e ≤ 1000000000) : Ev (fun k => bn.f k b (e : Int)) (pw b e) := by
 unfold bn.f
 simp only [gm, Option.bind_some]
 have hm : Int.tmod b 3329 = b := by rw [Int.tmod_eq_emod_of_nonneg hb.1, Int.emod_eq_of_lt hb.1 (by omega)]
 rw [hm]
 refine Ev.pos (ya ⟨by omega, by omega⟩) (Ev.neg (by omega) ?_)
 have h := nV e e b 1 (Ca _) he hb (by omega)
 rw [Int.one_mul] at h
 refine Ev.step (fun k => ?_) h
 simp only [bn.j0]
/-- The first i of seven bits, turned jl. -/
def t7s (n : Nat) : Nat → Nat
 | 0 => 0
 | i + 1 => 2 * t7s n i + n / 2 ^ i % 2
theorem rE (n i : Nat) : t7s n i < 2 ^ i := by
 induction i with
 | zero => simp [t7s]
 | succ i ih => simp only [t7s, Nat.pow_succ]; omega
theorem nD (n : Nat) : t7s n 7 < 128 := rE n 7
theorem tU (n i : Nat) (h : i ≤ 7) : t7s n i ≤ 128 := by
 have h1 := rE n i
 have h2 : 2 ^ i ≤ 2 ^ 7 := Nat.pow_le_pow_right (by omega) h
 omega
theorem np (n i : Nat) (h : i ≤ 7) : wrap64 ((wrap64 (2 * ((t7s n i : Nat) : Int))) + ((n / 2 ^ i % 2 : Nat) : Int)) = ((t7s n (i + 1) : Nat) : Int) := by
 have h1 := tU n i h
 have h2 : n / 2 ^ i % 2 ≤ 1 := by omega
 obtain ⟨u, hu⟩ : ∃ u, n / 2 ^ i % 2 = u := ⟨_, rfl⟩
 obtain ⟨v, hv⟩ : ∃ v, t7s n i = v := ⟨_, rfl⟩
 simp only [t7s]
 rw [hu] at h2 ⊢
 rw [hv] at h1 ⊢
 rw [w64 (x := 2 * (v : Int)) (by omega) (by omega), w64 (by omega) (by omega)]
 omega
theorem hH (n : Nat) (hn : n < 128) : Ev (fun k => bz.f k (n : Int)) ((t7s n 7 : Nat) : Int) := by
 unfold bz.f
 refine Ev.up (g := fun i k => bz.l0 k (n : Int) ((t7s n i : Nat) : Int) (i : Int)) 7 ?_ ?_ 0 (by omega)
 ·intro i hi h
  refine Ev.step (fun k => ?_) h
  have e1 : shr .i64 (n : Int) (i : Int) = ((n / 2 ^ i : Nat) : Int) := lI .i64 n i (by simp [IntKind.bits]; omega)
  have e2 := oz (n / 2 ^ i) (Nat.lt_of_le_of_lt (Nat.div_le_self _ _) (Nat.lt_trans hn (by decide)))
  have e3 := np n i (Nat.le_of_lt hi)
  have e4 := dz i (Nat.lt_trans hi (by decide))
  simp only [bz.l0]
  rw [Fa (show (i : Int) < 7 from Int.ofNat_lt.mpr hi), Fa (Int.natCast_nonneg _), e1, e2, e3, e4]
 ·refine Ev.step (f := fun _ => some ((t7s n 7 : Nat) : Int)) (fun k => ?_) (Ev.now _)
  simp only [bz.l0]
  rw [Ga (by omega)]
theorem g9 (n : Nat) (hn : n < 128) : Ev (fun k => aZ.f k (n : Int)) ((t7s n 7 : Nat) : Int) := by
 unfold aZ.f
 have hm : Int.tmod (n : Int) 128 = (n : Int) := by rw [Int.tmod_eq_emod_of_nonneg (by omega), Int.emod_eq_of_lt (by omega) (by omega)]
 rw [hm]
 refine Ev.neg (by omega) ?_
 refine Ev.step (f := fun k => aZ.l0 k (n : Int) 0 0) (fun k => ?_) ?_
 ·simp only [aZ.j0]
 ·have key := Ev.up (g := fun i k => aZ.l0 k ((n / 2 ^ i : Nat) : Int) ((t7s n i : Nat) : Int) (i : Int)) (r := ((t7s n 7 : Nat) : Int)) 7 ?_ ?_ 0 (by omega)
  ·simpa [t7s] using key
  ·intro i hi h
   refine Ev.step (fun k => ?_) h
   have e1 : Int.tmod ((n / 2 ^ i : Nat) : Int) 2 = ((n / 2 ^ i % 2 : Nat) : Int) := mY _
   have e2 := jS (n / 2 ^ i) (Nat.le_trans (Nat.div_le_self _ _) (Nat.le_trans (Nat.le_of_lt hn) (by decide)))
   have e3 := np n i (Nat.le_of_lt hi)
   have e4 := dz i (Nat.lt_trans hi (by decide))
   have e5 : n / 2 ^ i / 2 = n / 2 ^ (i + 1) := by rw [Nat.div_div_eq_div_mul, Nat.pow_succ]
   simp only [aZ.l0]
   rw [Fa (show (i : Int) < 7 from Int.ofNat_lt.mpr hi), e1, e2, e3, e4, e5]
  ·refine Ev.step (f := fun _ => some ((t7s n 7 : Nat) : Int)) (fun k => ?_) (Ev.now _)
   simp only [aZ.l0]
   rw [Ga (by omega)]
/-- The powers of 17 that the transforms take. -/
def zed (n : Nat) : Int := pw 17 (t7s n 7)
theorem nY (n : Nat) : 0 ≤ zed n ∧ zed n ≤ 3328 := tq _ _
theorem lC (a b : Nat) (h : a + b ≤ 100000) : wrap64 ((a : Int) + (b : Int)) = ((a + b : Nat) : Int) := by rw [w64 (by omega) (by omega)]; omega
theorem pT (a : Nat) (h : a ≤ 100000) : wrap64 (2 * (a : Int)) = ((2 * a : Nat) : Int) := by rw [w64 (by omega) (by omega)]; omega
theorem tz (a : Nat) (h : a ≤ 100000) : wrap64 (Int.tdiv (a : Int) 2) = ((a / 2 : Nat) : Int) := jS a (by omega)
theorem kk {x y : Int} (hx : 0 ≤ x ∧ x ≤ 3328) (hy : 0 ≤ y ∧ y ≤ 3328) : wrap64 (x * y) = x * y := by
 have := fV hx hy
 exact w64 (by omega) (by omega)
/-- A butterfly on the numbers from st on, s of them with the s behind; the first j of them done. -/
def bfp (z : Int) (s st j : Nat) (f : Nat → Int) : Nat → Int := fun n =>
 if st ≤ n ∧ n < st + j then (f n + z * f (n + s)) % 3329 else if st + s ≤ n ∧ n < st + s + j then (f (n - s) - z * f n) % 3329 else f n
theorem tl (z : Int) (s st : Nat) (f : Nat → Int) : bfp z s st 0 f = f := by
 funext n; unfold bfp; rw [Ga (by omega), Ga (by omega)]
theorem tG {z : Int} {s st j : Nat} {f : Nat → Int} (hf : ∀ i, 0 ≤ f i ∧ f i ≤ 3328) (n : Nat) : 0 ≤ bfp z s st j f n ∧ bfp z s st j f n ≤ 3328 := by
 unfold bfp
 split
 ·exact eC _
 ·split
  ·exact eC _
  ·exact hf n
theorem nL {z : Int} {s st j : Nat} {f : Nat → Int} (h : j < s) : bfp z s st j f (st + j) = f (st + j) := by
 unfold bfp; rw [Ga (by omega), Ga (by omega)]
theorem qv {z : Int} {s st j : Nat} {f : Nat → Int} : bfp z s st j f (st + j + s) = f (st + j + s) := by
 unfold bfp; rw [Ga (by omega), Ga (by omega)]
theorem oF (z : Int) (s st j : Nat) (f : Nat → Int) (hj : j < s) : ((vec (bfp z s st j f)).set (st + j) ((f (st + j) + z * f (st + j + s)) % 3329)).set (st + j + s) ((f (st + j) - z * f (st + j + s)) % 3329) = vec (bfp z s st (j + 1) f) := by
 rw [fH, fH]
 refine dP fun n _ => ?_
 by_cases h2 : n = st + j + s
 ·subst h2
  rw [Fa rfl]
  unfold bfp
  rw [Ga (by omega), Fa (by omega), show st + j + s - s = st + j by omega]
 ·rw [Ga h2]
  by_cases h1 : n = st + j
  ·subst h1
   rw [Fa rfl]
   unfold bfp
   rw [Fa (by omega)]
  ·rw [Ga h1]
   unfold bfp
   by_cases a : st ≤ n ∧ n < st + j
   ·rw [Fa a, Fa (by omega)]
   ·have a' : ¬ (st ≤ n ∧ n < st + (j + 1)) := by omega
    rw [Ga a, Ga a']
    by_cases b : st + s ≤ n ∧ n < st + s + j
    ·rw [Fa b, Fa (show st + s ≤ n ∧ n < st + s + (j + 1) by omega)]
    ·rw [Ga b, Ga (show ¬ (st + s ≤ n ∧ n < st + s + (j + 1)) by omega)]
theorem sn (z : Int) (s st j : Nat) (f : Nat → Int) (hs : 1 ≤ s) (A B : Int) : ((vec (bfp z s st j f)).set (st + j + s) B).set (st + j) A = ((vec (bfp z s st j f)).set (st + j) A).set (st + j + s) B :=
 List.set_comm _ _ (by omega)
/-- A layer: the first t butterflies of m, each of s and s numbers. -/
def lay (s m : Nat) : Nat → (Nat → Int) → Nat → Int
 | 0, f => f
 | t + 1, f => bfp (zed (m + t)) s (2 * s * t) s (lay s m t f)
theorem eF {s m : Nat} {f : Nat → Int} (hf : ∀ i, 0 ≤ f i ∧ f i ≤ 3328) (t : Nat) : ∀ n, 0 ≤ lay s m t f n ∧ lay s m t f n ≤ 3328 := by
 induction t with
 | zero => exact hf
 | succ t ih => exact fun n => tG ih n
def ot (f : Nat → Int) : Nat → Int := lay 2 64 64 (lay 4 32 32 (lay 8 16 16 (lay 16 8 8 (lay 32 4 4 (lay 64 2 2 (lay 128 1 1 f))))))
theorem ta {f : Nat → Int} (hf : ∀ i, 0 ≤ f i ∧ f i ≤ 3328) : ∀ n, 0 ≤ ot f n ∧ ot f n ≤ 3328 :=
 eF (eF (eF (eF (eF (eF (eF hf 1) 2) 4) 8) 16) 32) 64
theorem pe (f : Nat → Int) (hf : ∀ i, 0 ≤ f i ∧ f i ≤ 3328) (z : Int) (hz : 0 ≤ z ∧ z ≤ 3328) (s st : Nat) (K : Int) (hs : 1 ≤ s) (hst : st + 2 * s ≤ 256) {r : List Int}
  (h : Ev (fun k => aI.l1 k (vec (bfp z s st s f)) K (s : Int) ((st + 2 * s : Nat) : Int)) r) : Ev (fun k => aI.l2 k (vec f) K (s : Int) (st : Int) z (st : Int)) r := by
 have e0 : vec f = vec (bfp z s st 0 f) := by rw [tl]
 have w1 := lC st s (by omega)
 rw [e0]
 refine Ev.up (g := fun j k => aI.l2 k (vec (bfp z s st j f)) K (s : Int) (st : Int) z ((st + j : Nat) : Int)) s ?_ ?_ 0 (by omega)
 ·intro j hj h'
  refine Ev.step (fun k => ?_) h'
  have c1 : st + j < st + s := Nat.add_lt_add_left hj _
  have c2 : st + j + s < 256 := Nat.lt_of_lt_of_le (Nat.add_lt_add_right c1 s) (Nat.le_trans (by rw [Nat.two_mul, Nat.add_assoc]; exact Ca _) hst)
  have c3 : st + j < 256 := Nat.lt_of_le_of_lt (Nat.le_add_right _ s) c2
  have w2 := lC (st + j) s (Nat.le_trans (Nat.le_of_lt c2) (by decide))
  have w3 : wrap64 (((st + j : Nat) : Int) + 1) = ((st + (j + 1) : Nat) : Int) := dz (st + j) (Nat.lt_trans c3 (by decide))
  have hm := fV hz (hf (st + j + s))
  have h1 := hf (st + j)
  simp only [aI.l2]
  rw [w1]
  clear e0 w1
  rw [Fa (Int.ofNat_lt.mpr c1), w2, Fa (Int.natCast_nonneg _), Fa (by rw [aU]; exact Int.ofNat_lt.mpr c2), Fa (Int.natCast_nonneg _), Fa (by rw [aU]; exact Int.ofNat_lt.mpr c3), dk _ _ c3, dk _ _ c2, nL hj, qv, kk hz (hf _), w64 (x := f (st + j) + z * f (st + j + s)) (by omega) (by omega), w64 (x := f (st + j) - z * f (st + j + s)) (by omega) (by omega), gg _ (by omega) (by omega), Option.bind_some, gg _ (by omega) (by omega), Option.bind_some, Int.toNat_natCast, Int.toNat_natCast, oF z s st j f hj, w3]
 ·refine Ev.step (fun k => ?_) h
  have c1 : ¬ ((st + s : Nat) : Int) < ((st + s : Nat) : Int) := Int.lt_irrefl _
  have w4 := pT s (by clear w1; omega)
  have w5 := lC st (2 * s) (by clear w1 w4; omega)
  simp only [aI.l2]
  rw [w1, Ga c1, w4, w5]
theorem eU (s m : Nat) (hsm : 2 * s * m = 256) (hs : 1 ≤ s) (hm : 1 ≤ m) (f : Nat → Int) (hf : ∀ i, 0 ≤ f i ∧ f i ≤ 3328) (hs2 : 2 ≤ s) {r : List Int}
  (h : Ev (fun k => aI.l0 k (vec (lay s m m f)) ((2 * m : Nat) : Int) ((s / 2 : Nat) : Int)) r) : Ev (fun k => aI.l0 k (vec f) (m : Int) (s : Int)) r := by
 have hs128 : s ≤ 128 := by
  have : 2 * s * 1 ≤ 2 * s * m := Nat.mul_le_mul_left _ hm
  omega
 have hm128 : m ≤ 128 := by
  have : 2 * m ≤ 2 * s * m := Nat.mul_le_mul_right _ (by omega)
  omega
 refine Ev.step (f := fun k => aI.l1 k (vec f) (m : Int) (s : Int) 0) (fun k => ?_) ?_
 ·simp only [aI.l0]
  rw [Fa (by omega)]
 ·refine Ev.up (g := fun t k => aI.l1 k (vec (lay s m t f)) ((m + t : Nat) : Int) (s : Int) ((2 * s * t : Nat) : Int)) m ?_ ?_ 0 (by omega)
  ·intro t ht h'
   have c0 : 2 * s * t + 2 * s ≤ 256 := by rw [← Nat.mul_succ, ← hsm]; exact Nat.mul_le_mul_left _ ht
   have ek : m + t < 128 := by
    have : 4 * m ≤ 2 * s * m := Nat.mul_le_mul_right _ (by omega)
    omega
   have w1 := dz (m + t) (Nat.lt_trans ek (by decide))
   have h2 := pe (lay s m t f) (eF hf t) (zed (m + t)) (nY _) s (2 * s * t) ((m + t + 1 : Nat) : Int) hs c0 h'
   have cond : ((2 * s * t : Nat) : Int) < 256 := by clear w1; omega
   refine Ev.step (f := fun k => (bz.f k ((m + t : Nat) : Int)).bind fun t287 => ((bF.f k 17 t287).bind fun t288 => (aI.l2 k (vec (lay s m t f)) (wrap64 (((m + t : Nat) : Int) + 1)) (s : Int) ((2 * s * t : Nat) : Int) t288 ((2 * s * t : Nat) : Int)))) (fun k => ?_) ?_
   ·simp only [aI.l1]
    rw [Fa cond]
   ·rw [w1]
    exact Ev.bind (hH (m + t) ek) (Ev.bind (iJ 17 (by decide) _ (Nat.le_trans (Nat.le_of_lt (nD _)) (by decide))) h2)
  ·refine Ev.step (fun k => ?_) h
   have w1 := tz s (by omega)
   have c1 : ¬ ((2 * s * m : Nat) : Int) < 256 := by clear w1; omega
   simp only [aI.l1]
   rw [Ga c1, w1, show m + m = 2 * m by rw [Nat.two_mul]]
theorem oH (f : Nat → Int) (hf : ∀ i, 0 ≤ f i ∧ f i ≤ 3328) : Ev (fun k => aI.f k (vec f)) (vec (ot f)) := by
 have core : Ev (fun k => aI.l0 k (vec f) 1 128) (vec (ot f)) := by
  have i1 := eF (s := 128) (m := 1) hf 1
  have i2 := eF (s := 64) (m := 2) i1 2
  have i3 := eF (s := 32) (m := 4) i2 4
  have i4 := eF (s := 16) (m := 8) i3 8
  have i5 := eF (s := 8) (m := 16) i4 16
  have i6 := eF (s := 4) (m := 32) i5 32
  refine eU 128 1 (by decide) (by decide) (by decide) f hf (by decide) ?_
  refine eU 64 2 (by decide) (by decide) (by decide) _ i1 (by decide) ?_
  refine eU 32 4 (by decide) (by decide) (by decide) _ i2 (by decide) ?_
  refine eU 16 8 (by decide) (by decide) (by decide) _ i3 (by decide) ?_
  refine eU 8 16 (by decide) (by decide) (by decide) _ i4 (by decide) ?_
  refine eU 4 32 (by decide) (by decide) (by decide) _ i5 (by decide) ?_
  refine eU 2 64 (by decide) (by decide) (by decide) _ i6 (by decide) ?_
  refine Ev.step (f := fun _ => some (vec (ot f))) (fun k => ?_) (Ev.now _)
  simp only [aI.l0]
  rw [Ga (by decide)]
  rfl
 unfold aI.f
 have ok := dL (f := f) fun i _ => hf i
 have ln := aU f
 refine Ev.bind (ok ▸ dn (vec f) (by omega)) (Ev.pos rfl ?_)
 refine Ev.then (a := vec f) ?_ core
 unfold dx.f
 rw [Fa (by rw [ln]; decide), List.nil_append]
theorem oY (f : Nat → Int) (hf : ∀ i, 0 ≤ f i ∧ f i ≤ 3328) (z : Int) (hz : 0 ≤ z ∧ z ≤ 3328) (s st : Nat) (K : Int) (hs : 1 ≤ s) (hst : st + 2 * s ≤ 256) {r : List Int}
  (h : Ev (fun k => aY.l1 k (vec (bfp z s st s f)) K (s : Int) ((st + 2 * s : Nat) : Int)) r) : Ev (fun k => aY.l2 k (vec f) K (s : Int) (st : Int) z (st : Int)) r := by
 have e0 : vec f = vec (bfp z s st 0 f) := by rw [tl]
 have w1 := lC st s (by omega)
 rw [e0]
 refine Ev.up (g := fun j k => aY.l2 k (vec (bfp z s st j f)) K (s : Int) (st : Int) z ((st + j : Nat) : Int)) s ?_ ?_ 0 (by omega)
 ·intro j hj h'
  refine Ev.step (fun k => ?_) h'
  have c1 : st + j < st + s := Nat.add_lt_add_left hj _
  have c2 : st + j + s < 256 := Nat.lt_of_lt_of_le (Nat.add_lt_add_right c1 s) (Nat.le_trans (by rw [Nat.two_mul, Nat.add_assoc]; exact Ca _) hst)
  have c3 : st + j < 256 := Nat.lt_of_le_of_lt (Nat.le_add_right _ s) c2
  have w2 := lC (st + j) s (Nat.le_trans (Nat.le_of_lt c2) (by decide))
  have w3 : wrap64 (((st + j : Nat) : Int) + 1) = ((st + (j + 1) : Nat) : Int) := dz (st + j) (Nat.lt_trans c3 (by decide))
  have hm := fV hz (hf (st + j + s))
  have h1 := hf (st + j)
  simp only [aY.l2, Option.bind_some]
  rw [w1]
  clear e0 w1
  rw [Fa (Int.ofNat_lt.mpr c1), w2, Fa (Int.natCast_nonneg _), Fa (by rw [aU]; exact Int.ofNat_lt.mpr c2), Fa (Int.natCast_nonneg _), Fa (by rw [aU]; exact Int.ofNat_lt.mpr c3), dk _ _ c3, dk _ _ c2, nL hj, qv, jp hz (hf _), Int.toNat_natCast, Int.toNat_natCast, fH, dk _ _ c3, Ga (show ¬ st + j = st + j + s by omega), nL hj, ← fH]
  rw [show Int.tmod (wrap64 ((wrap64 (f (st + j) - z * f (st + j + s) % 3329)) + 3329)) 3329 = (f (st + j) - z * f (st + j + s)) % 3329 by
   rw [w64 (x := f (st + j) - z * f (st + j + s) % 3329) (by omega) (by omega), w64 (by omega) (by omega), Int.tmod_eq_emod_of_nonneg (by omega)]; omega]
  rw [show Int.tmod (wrap64 (f (st + j) + z * f (st + j + s) % 3329)) 3329 = (f (st + j) + z * f (st + j + s)) % 3329 by
   rw [w64 (by omega) (by omega), Int.tmod_eq_emod_of_nonneg (by omega)]; omega]
  rw [sn z s st j f hs, oF z s st j f hj, w3]
 ·refine Ev.step (fun k => ?_) h
  have c1 : ¬ ((st + s : Nat) : Int) < ((st + s : Nat) : Int) := Int.lt_irrefl _
  have w4 := pT s (by clear w1; omega)
  have w5 := lC st (2 * s) (by clear w1 w4; omega)
  simp only [aY.l2]
  rw [w1, Ga c1, w4, w5]
theorem eT (s m : Nat) (hsm : 2 * s * m = 256) (hs : 1 ≤ s) (hm : 1 ≤ m) (f : Nat → Int) (hf : ∀ i, 0 ≤ f i ∧ f i ≤ 3328) (hs2 : 2 ≤ s) {r : List Int}
  (h : Ev (fun k => aY.l0 k (vec (lay s m m f)) ((2 * m : Nat) : Int) ((s / 2 : Nat) : Int)) r) : Ev (fun k => aY.l0 k (vec f) (m : Int) (s : Int)) r := by
 have hs128 : s ≤ 128 := by
  have : 2 * s * 1 ≤ 2 * s * m := Nat.mul_le_mul_left _ hm
  omega
 have hm128 : m ≤ 128 := by
  have : 2 * m ≤ 2 * s * m := Nat.mul_le_mul_right _ (by omega)
  omega
 refine Ev.step (f := fun k => aY.l1 k (vec f) (m : Int) (s : Int) 0) (fun k => ?_) ?_
 ·simp only [aY.l0]
  rw [Fa (by omega)]
 ·refine Ev.up (g := fun t k => aY.l1 k (vec (lay s m t f)) ((m + t : Nat) : Int) (s : Int) ((2 * s * t : Nat) : Int)) m ?_ ?_ 0 (by omega)
  ·intro t ht h'
   have c0 : 2 * s * t + 2 * s ≤ 256 := by rw [← Nat.mul_succ, ← hsm]; exact Nat.mul_le_mul_left _ ht
   have ek : m + t < 128 := by
    have : 4 * m ≤ 2 * s * m := Nat.mul_le_mul_right _ (by omega)
    omega
   have w1 := dz (m + t) (Nat.lt_trans ek (by decide))
   have h2 := oY (lay s m t f) (eF hf t) (zed (m + t)) (nY _) s (2 * s * t) ((m + t + 1 : Nat) : Int) hs c0 h'
   have cond : ((2 * s * t : Nat) : Int) < 256 := by clear w1; omega
   refine Ev.step (f := fun k => (aZ.f k ((m + t : Nat) : Int)).bind fun t287 => ((bn.f k 17 t287).bind fun t288 => (aY.l2 k (vec (lay s m t f)) (wrap64 (((m + t : Nat) : Int) + 1)) (s : Int) ((2 * s * t : Nat) : Int) t288 ((2 * s * t : Nat) : Int)))) (fun k => ?_) ?_
   ·simp only [aY.l1]
    rw [Fa cond]
   ·rw [w1]
    exact Ev.bind (g9 (m + t) ek) (Ev.bind (iE 17 (by decide) _ (Nat.le_trans (Nat.le_of_lt (nD _)) (by decide))) h2)
  ·refine Ev.step (fun k => ?_) h
   have w1 := tz s (by omega)
   have c1 : ¬ ((2 * s * m : Nat) : Int) < 256 := by clear w1; omega
   simp only [aY.l1]
   rw [Ga c1, w1, show m + m = 2 * m by rw [Nat.two_mul]]
theorem oV (f : Nat → Int) (hf : ∀ i, 0 ≤ f i ∧ f i ≤ 3328) : Ev (fun k => aY.f k (vec f)) (vec (ot f)) := by
 have core : Ev (fun k => aY.l0 k (vec f) 1 128) (vec (ot f)) := by
  have i1 := eF (s := 128) (m := 1) hf 1
  have i2 := eF (s := 64) (m := 2) i1 2
  have i3 := eF (s := 32) (m := 4) i2 4
  have i4 := eF (s := 16) (m := 8) i3 8
  have i5 := eF (s := 8) (m := 16) i4 16
  have i6 := eF (s := 4) (m := 32) i5 32
  refine eT 128 1 (by decide) (by decide) (by decide) f hf (by decide) ?_
  refine eT 64 2 (by decide) (by decide) (by decide) _ i1 (by decide) ?_
  refine eT 32 4 (by decide) (by decide) (by decide) _ i2 (by decide) ?_
  refine eT 16 8 (by decide) (by decide) (by decide) _ i3 (by decide) ?_
  refine eT 8 16 (by decide) (by decide) (by decide) _ i4 (by decide) ?_
  refine eT 4 32 (by decide) (by decide) (by decide) _ i5 (by decide) ?_
  refine eT 2 64 (by decide) (by decide) (by decide) _ i6 (by decide) ?_
  refine Ev.step (f := fun _ => some (vec (ot f))) (fun k => ?_) (Ev.now _)
  simp only [aY.l0]
  rw [Ga (by decide)]
  rfl
 unfold aY.f
 have ok := dL (f := f) fun i _ => hf i
 have ln := aU f
 refine Ev.bind (ok ▸ cR (vec f)) (Ev.pos rfl ?_)
 simp only [Option.bind_some]
 refine Ev.pos (by rw [ln]; decide) ?_
 rw [List.nil_append]
 exact core
/-- A butterfly back on the numbers from st on, s of them with the s behind; the first j of them done. -/
def bfi (z : Int) (s st j : Nat) (f : Nat → Int) : Nat → Int := fun n =>
 if st ≤ n ∧ n < st + j then (f n + f (n + s)) % 3329 else if st + s ≤ n ∧ n < st + s + j then (z * (f n - f (n - s))) % 3329 else f n
theorem tp (z : Int) (s st : Nat) (f : Nat → Int) : bfi z s st 0 f = f := by
 funext n; unfold bfi; rw [Ga (by omega), Ga (by omega)]
theorem ua {z : Int} {s st j : Nat} {f : Nat → Int} (hf : ∀ i, 0 ≤ f i ∧ f i ≤ 3328) (n : Nat) : 0 ≤ bfi z s st j f n ∧ bfi z s st j f n ≤ 3328 := by
 unfold bfi
 split
 ·exact eC _
 ·split
  ·exact eC _
  ·exact hf n
theorem qr {z : Int} {s st j : Nat} {f : Nat → Int} (h : j < s) : bfi z s st j f (st + j) = f (st + j) := by
 unfold bfi; rw [Ga (by omega), Ga (by omega)]
theorem od {z : Int} {s st j : Nat} {f : Nat → Int} : bfi z s st j f (st + j + s) = f (st + j + s) := by
 unfold bfi; rw [Ga (by omega), Ga (by omega)]
theorem oI (z : Int) (s st j : Nat) (f : Nat → Int) (hj : j < s) : ((vec (bfi z s st j f)).set (st + j) ((f (st + j) + f (st + j + s)) % 3329)).set (st + j + s) ((z * (f (st + j + s) - f (st + j))) % 3329) = vec (bfi z s st (j + 1) f) := by
 rw [fH, fH]
 refine dP fun n _ => ?_
 by_cases h2 : n = st + j + s
 ·subst h2
  rw [Fa rfl]
  unfold bfi
  rw [Ga (by omega), Fa (by omega), show st + j + s - s = st + j by omega]
 ·rw [Ga h2]
  by_cases h1 : n = st + j
  ·subst h1
   rw [Fa rfl]
   unfold bfi
   rw [Fa (by omega)]
  ·rw [Ga h1]
   unfold bfi
   by_cases a : st ≤ n ∧ n < st + j
   ·rw [Fa a, Fa (by omega)]
   ·have a' : ¬ (st ≤ n ∧ n < st + (j + 1)) := by omega
    rw [Ga a, Ga a']
    by_cases b : st + s ≤ n ∧ n < st + s + j
    ·rw [Fa b, Fa (show st + s ≤ n ∧ n < st + s + (j + 1) by omega)]
    ·rw [Ga b, Ga (show ¬ (st + s ≤ n ∧ n < st + s + (j + 1)) by omega)]
/-- A layer back: the first t butterflies of m, each of s and s numbers; the powers are taken from 2m-1 downwards. -/
def i8 (s m : Nat) : Nat → (Nat → Int) → Nat → Int
 | 0, f => f
 | t + 1, f => bfi (zed (2 * m - 1 - t)) s (2 * s * t) s (i8 s m t f)
theorem eH {s m : Nat} {f : Nat → Int} (hf : ∀ i, 0 ≤ f i ∧ f i ≤ 3328) (t : Nat) : ∀ n, 0 ≤ i8 s m t f n ∧ i8 s m t f n ≤ 3328 := by
 induction t with
 | zero => exact hf
 | succ t ih => exact fun n => ua ih n
def ro (f : Nat → Int) : Nat → Int := fun n => i8 128 1 1 (i8 64 2 2 (i8 32 4 4 (i8 16 8 8 (i8 8 16 16 (i8 4 32 32 (i8 2 64 64 f)))))) n * 3303 % 3329
theorem nS {z x y : Int} (hz : 0 ≤ z ∧ z ≤ 3328) (hx : 0 ≤ x ∧ x ≤ 3328) (hy : 0 ≤ y ∧ y ≤ 3328) : -11075584 ≤ z * (y - x) ∧ z * (y - x) ≤ 11075584 := by
 have h1 := fV hz hx
 have h2 := fV hz hy
 rw [Int.mul_sub]
 omega
theorem me (f : Nat → Int) (hf : ∀ i, 0 ≤ f i ∧ f i ≤ 3328) (z : Int) (hz : 0 ≤ z ∧ z ≤ 3328) (s st : Nat) (K : Int) (hs : 1 ≤ s) (hst : st + 2 * s ≤ 256) {r : List Int}
  (h : Ev (fun k => ag.l1 k (vec (bfi z s st s f)) K (s : Int) ((st + 2 * s : Nat) : Int)) r) : Ev (fun k => ag.l2 k (vec f) K (s : Int) (st : Int) z (st : Int)) r := by
 have e0 : vec f = vec (bfi z s st 0 f) := by rw [tp]
 have w1 := lC st s (by omega)
 rw [e0]
 refine Ev.up (g := fun j k => ag.l2 k (vec (bfi z s st j f)) K (s : Int) (st : Int) z ((st + j : Nat) : Int)) s ?_ ?_ 0 (by omega)
 ·intro j hj h'
  refine Ev.step (fun k => ?_) h'
  have c1 : st + j < st + s := Nat.add_lt_add_left hj _
  have c2 : st + j + s < 256 := Nat.lt_of_lt_of_le (Nat.add_lt_add_right c1 s) (Nat.le_trans (by rw [Nat.two_mul, Nat.add_assoc]; exact Ca _) hst)
  have c3 : st + j < 256 := Nat.lt_of_le_of_lt (Nat.le_add_right _ s) c2
  have w2 := lC (st + j) s (Nat.le_trans (Nat.le_of_lt c2) (by decide))
  have w3 : wrap64 (((st + j : Nat) : Int) + 1) = ((st + (j + 1) : Nat) : Int) := dz (st + j) (Nat.lt_trans c3 (by decide))
  have h1 := hf (st + j)
  have h2 := hf (st + j + s)
  have hm := nS hz h1 h2
  simp only [ag.l2]
  rw [w1]
  clear e0 w1
  rw [Fa (Int.ofNat_lt.mpr c1), w2, Fa (Int.natCast_nonneg _), Fa (by rw [aU]; exact Int.ofNat_lt.mpr c3), Fa (Int.natCast_nonneg _), Fa (by rw [aU]; exact Int.ofNat_lt.mpr c2), dk _ _ c3, dk _ _ c2, qr hj, od, w64 (x := f (st + j) + f (st + j + s)) (by omega) (by omega), w64 (x := f (st + j + s) - f (st + j)) (by omega) (by omega), w64 (x := z * (f (st + j + s) - f (st + j))) (by omega) (by omega), gg _ (by omega) (by omega), Option.bind_some, gg _ (by omega) (by omega), Option.bind_some, Int.toNat_natCast, Int.toNat_natCast, oI z s st j f hj, w3]
 ·refine Ev.step (fun k => ?_) h
  have c1 : ¬ ((st + s : Nat) : Int) < ((st + s : Nat) : Int) := Int.lt_irrefl _
  have w4 := pT s (by clear w1; omega)
  have w5 := lC st (2 * s) (by clear w1 w4; omega)
  simp only [ag.l2]
  rw [w1, Ga c1, w4, w5]
theorem tE (a : Nat) (h1 : 1 ≤ a) (h : a ≤ 100000) : wrap64 ((a : Int) - 1) = ((a - 1 : Nat) : Int) := by rw [w64 (by omega) (by omega)]; omega
theorem rT (a : Nat) (h : a ≤ 100000) : wrap64 ((a : Int) * 2) = ((a * 2 : Nat) : Int) := by rw [w64 (by omega) (by omega)]; omega
theorem dQ (s m : Nat) (hsm : 2 * s * m = 256) (hs : 2 ≤ s) (hm : 1 ≤ m) (f : Nat → Int) (hf : ∀ i, 0 ≤ f i ∧ f i ≤ 3328) {r : List Int}
  (h : Ev (fun k => ag.l0 k (vec (i8 s m m f)) ((2 * m - 1 - m : Nat) : Int) ((s * 2 : Nat) : Int)) r) : Ev (fun k => ag.l0 k (vec f) ((2 * m - 1 : Nat) : Int) (s : Int)) r := by
 have hs128 : s ≤ 128 := by
  have : 2 * s * 1 ≤ 2 * s * m := Nat.mul_le_mul_left _ hm
  omega
 have hm64 : 2 * m ≤ 128 := by
  have : 4 * m ≤ 2 * s * m := Nat.mul_le_mul_right _ (by omega)
  omega
 refine Ev.step (f := fun k => ag.l1 k (vec f) ((2 * m - 1 : Nat) : Int) (s : Int) 0) (fun k => ?_) ?_
 ·simp only [ag.l0]
  rw [Fa (by omega)]
 ·refine Ev.up (g := fun t k => ag.l1 k (vec (i8 s m t f)) ((2 * m - 1 - t : Nat) : Int) (s : Int) ((2 * s * t : Nat) : Int)) m ?_ ?_ 0 (by omega)
  ·intro t ht h'
   have c0 : 2 * s * t + 2 * s ≤ 256 := by rw [← Nat.mul_succ, ← hsm]; exact Nat.mul_le_mul_left _ ht
   have ek : 2 * m - 1 - t < 128 := by omega
   have w1 := tE (2 * m - 1 - t) (by omega) (by omega)
   have e1 : 2 * m - 1 - t - 1 = 2 * m - 1 - (t + 1) := by clear w1; omega
   rw [e1] at w1
   have h2 := me (i8 s m t f) (eH hf t) (zed (2 * m - 1 - t)) (nY _) s (2 * s * t) ((2 * m - 1 - (t + 1) : Nat) : Int) (Nat.le_trans (by decide) hs) c0 h'
   have cond : ((2 * s * t : Nat) : Int) < 256 := by clear w1; omega
   refine Ev.step (f := fun k => (bz.f k ((2 * m - 1 - t : Nat) : Int)).bind fun t300 => ((bF.f k 17 t300).bind fun t301 => (ag.l2 k (vec (i8 s m t f)) (wrap64 (((2 * m - 1 - t : Nat) : Int) - 1)) (s : Int) ((2 * s * t : Nat) : Int) t301 ((2 * s * t : Nat) : Int)))) (fun k => ?_) ?_
   ·simp only [ag.l1]
    rw [Fa cond]
   ·rw [w1]
    exact Ev.bind (hH _ ek) (Ev.bind (iJ 17 (by decide) _ (Nat.le_trans (Nat.le_of_lt (nD _)) (by decide))) h2)
  ·refine Ev.step (fun k => ?_) h
   have w1 := rT s (by omega)
   have c1 : ¬ ((2 * s * m : Nat) : Int) < 256 := by clear w1; omega
   simp only [ag.l1]
   rw [Ga c1, w1]
theorem qE {z x y : Int} (hz : 0 ≤ z ∧ z ≤ 3328) (hx : 0 ≤ x ∧ x ≤ 3328) (hy : 0 ≤ y ∧ y ≤ 3328) : Int.tmod (wrap64 (z * (wrap64 ((wrap64 (y - x)) + 3329)))) 3329 = z * (y - x) % 3329 := by
 have h0 := nS hz hx hy
 have e : z * (y - x + 3329) = z * (y - x) + 3329 * z := by rw [Int.mul_add, Int.mul_comm z 3329]
 have hn : 0 ≤ z * (y - x + 3329) := Int.mul_nonneg hz.1 (by omega)
 rw [w64 (x := y - x) (by omega) (by omega), w64 (x := y - x + 3329) (by omega) (by omega), w64 (x := z * (y - x + 3329)) (by omega) (by omega), Int.tmod_eq_emod_of_nonneg hn, e]
 omega
theorem mq (f : Nat → Int) (hf : ∀ i, 0 ≤ f i ∧ f i ≤ 3328) (z : Int) (hz : 0 ≤ z ∧ z ≤ 3328) (s st : Nat) (K : Int) (hs : 1 ≤ s) (hst : st + 2 * s ≤ 256) {r : List Int}
  (h : Ev (fun k => ao.l1 k (vec (bfi z s st s f)) K (s : Int) ((st + 2 * s : Nat) : Int)) r) : Ev (fun k => ao.l2 k (vec f) K (s : Int) (st : Int) z (st : Int)) r := by
 have e0 : vec f = vec (bfi z s st 0 f) := by rw [tp]
 have w1 := lC st s (by omega)
 rw [e0]
 refine Ev.up (g := fun j k => ao.l2 k (vec (bfi z s st j f)) K (s : Int) (st : Int) z ((st + j : Nat) : Int)) s ?_ ?_ 0 (by omega)
 ·intro j hj h'
  refine Ev.step (fun k => ?_) h'
  have c1 : st + j < st + s := Nat.add_lt_add_left hj _
  have c2 : st + j + s < 256 := Nat.lt_of_lt_of_le (Nat.add_lt_add_right c1 s) (Nat.le_trans (by rw [Nat.two_mul, Nat.add_assoc]; exact Ca _) hst)
  have c3 : st + j < 256 := Nat.lt_of_le_of_lt (Nat.le_add_right _ s) c2
  have w2 := lC (st + j) s (Nat.le_trans (Nat.le_of_lt c2) (by decide))
  have w3 : wrap64 (((st + j : Nat) : Int) + 1) = ((st + (j + 1) : Nat) : Int) := dz (st + j) (Nat.lt_trans c3 (by decide))
  have h1 := hf (st + j)
  have h2 := hf (st + j + s)
  have hm := nS hz h1 h2
  have nj : ¬ st + j + s = st + j := by clear e0 w1 w2; omega
  have ey : ∀ v : Int, rd ((vec (bfi z s st j f)).set (st + j) v) ((st + j + s : Nat) : Int) = f (st + j + s) := by
   intro v
   rw [fH, dk _ _ c2, Ga nj, od]
  have em := qE hz h1 h2
  simp only [ao.l2, Option.bind_some]
  rw [w1]
  clear e0 w1
  rw [Fa (Int.ofNat_lt.mpr c1), w2, Fa (Int.natCast_nonneg _), Fa (by rw [aU]; exact Int.ofNat_lt.mpr c3), Fa (Int.natCast_nonneg _), Fa (by rw [aU]; exact Int.ofNat_lt.mpr c2), Int.toNat_natCast, Int.toNat_natCast, ey, dk _ _ c3, qr hj, dk _ _ c2, od, em, w64 (x := f (st + j) + f (st + j + s)) (by omega) (by omega), Int.tmod_eq_emod_of_nonneg (show 0 ≤ f (st + j) + f (st + j + s) by omega), oI z s st j f hj, w3]
 ·refine Ev.step (fun k => ?_) h
  have c1 : ¬ ((st + s : Nat) : Int) < ((st + s : Nat) : Int) := Int.lt_irrefl _
  have w4 := pT s (by clear w1; omega)
  have w5 := lC st (2 * s) (by clear w1 w4; omega)
  simp only [ao.l2]
  rw [w1, Ga c1, w4, w5]
theorem dT (s m : Nat) (hsm : 2 * s * m = 256) (hs : 2 ≤ s) (hm : 1 ≤ m) (f : Nat → Int) (hf : ∀ i, 0 ≤ f i ∧ f i ≤ 3328) {r : List Int}
  (h : Ev (fun k => ao.l0 k (vec (i8 s m m f)) ((2 * m - 1 - m : Nat) : Int) ((s * 2 : Nat) : Int)) r) : Ev (fun k => ao.l0 k (vec f) ((2 * m - 1 : Nat) : Int) (s : Int)) r := by
 have hs128 : s ≤ 128 := by
  have : 2 * s * 1 ≤ 2 * s * m := Nat.mul_le_mul_left _ hm
  omega
 have hm64 : 2 * m ≤ 128 := by
  have : 4 * m ≤ 2 * s * m := Nat.mul_le_mul_right _ (by omega)
  omega
 refine Ev.step (f := fun k => ao.l1 k (vec f) ((2 * m - 1 : Nat) : Int) (s : Int) 0) (fun k => ?_) ?_
 ·simp only [ao.l0]
  rw [Fa (by omega)]
 ·refine Ev.up (g := fun t k => ao.l1 k (vec (i8 s m t f)) ((2 * m - 1 - t : Nat) : Int) (s : Int) ((2 * s * t : Nat) : Int)) m ?_ ?_ 0 (by omega)
  ·intro t ht h'
   have c0 : 2 * s * t + 2 * s ≤ 256 := by rw [← Nat.mul_succ, ← hsm]; exact Nat.mul_le_mul_left _ ht
   have ek : 2 * m - 1 - t < 128 := by omega
   have w1 := tE (2 * m - 1 - t) (by omega) (by omega)
   have e1 : 2 * m - 1 - t - 1 = 2 * m - 1 - (t + 1) := by clear w1; omega
   rw [e1] at w1
   have h2 := mq (i8 s m t f) (eH hf t) (zed (2 * m - 1 - t)) (nY _) s (2 * s * t) ((2 * m - 1 - (t + 1) : Nat) : Int) (Nat.le_trans (by decide) hs) c0 h'
   have cond : ((2 * s * t : Nat) : Int) < 256 := by clear w1; omega
   refine Ev.step (f := fun k => (aZ.f k ((2 * m - 1 - t : Nat) : Int)).bind fun t300 => ((bn.f k 17 t300).bind fun t301 => (ao.l2 k (vec (i8 s m t f)) (wrap64 (((2 * m - 1 - t : Nat) : Int) - 1)) (s : Int) ((2 * s * t : Nat) : Int) t301 ((2 * s * t : Nat) : Int)))) (fun k => ?_) ?_
   ·simp only [ao.l1]
    rw [Fa cond]
   ·rw [w1]
    exact Ev.bind (g9 _ ek) (Ev.bind (iE 17 (by decide) _ (Nat.le_trans (Nat.le_of_lt (nD _)) (by decide))) h2)
  ·refine Ev.step (fun k => ?_) h
   have w1 := rT s (by omega)
   have c1 : ¬ ((2 * s * m : Nat) : Int) < 256 := by clear w1; omega
   simp only [ao.l1]
   rw [Ga c1, w1]
def kD (f : Nat → Int) (i : Nat) : Nat → Int := fun n => if n < i then f n * 3303 % 3329 else f n
theorem rl (f : Nat → Int) : kD f 0 = f := rfl
theorem o5 (f : Nat → Int) : vec (kD f 256) = vec fun n => f n * 3303 % 3329 := dP fun _ hn => Fa hn
theorem nz (f : Nat → Int) (i : Nat) : (vec (kD f i)).set i (f i * 3303 % 3329) = vec (kD f (i + 1)) := by
 rw [fH]
 refine dP fun n _ => ?_
 unfold kD
 by_cases e : n = i
 ·subst e; rw [Fa rfl, Fa (by omega)]
 ·rw [Ga e]
  by_cases h : n < i
  ·rw [Fa h, Fa (by omega)]
  ·rw [Ga h, Ga (by omega)]
theorem mC (f : Nat → Int) (hf : ∀ i, 0 ≤ f i ∧ f i ≤ 3328) : Ev (fun k => ag.l3 k (vec f) ((256 : Nat) : Int) 0) (vec fun n => f n * 3303 % 3329) := by
 have e0 : vec f = vec (kD f 0) := by rw [rl]
 rw [e0]
 refine Ev.up (g := fun i k => ag.l3 k (vec (kD f i)) ((256 : Nat) : Int) (i : Int)) 256 ?_ ?_ 0 (by omega)
 ·intro i hi h
  refine Ev.step (fun k => ?_) h
  have hb := hf i
  have ei : kD f i i = f i := Ga (Nat.lt_irrefl _)
  simp only [ag.l3]
  rw [Fa (by omega), Fa (by omega), Fa (by rw [aU]; omega), dk _ _ hi, ei, w64 (x := f i * 3303) (by omega) (by omega), gg _ (by omega) (by omega), Option.bind_some, Int.toNat_natCast, nz, dz i (by omega)]
 ·refine Ev.step (f := fun _ => some (vec (kD f 256))) (fun k => ?_) ?_
  ·simp only [ag.l3]
   rw [Ga (by omega)]
  ·rw [o5]; exact Ev.now _
theorem mB (f : Nat → Int) (hf : ∀ i, 0 ≤ f i ∧ f i ≤ 3328) : Ev (fun k => ao.l3 k (vec f) 0) (vec fun n => f n * 3303 % 3329) := by
 have e0 : vec f = vec (kD f 0) := by rw [rl]
 rw [e0]
 refine Ev.up (g := fun i k => ao.l3 k (vec (kD f i)) (i : Int)) 256 ?_ ?_ 0 (by omega)
 ·intro i hi h
  refine Ev.step (fun k => ?_) h
  have hb := hf i
  have ei : kD f i i = f i := Ga (Nat.lt_irrefl _)
  simp only [ao.l3]
  rw [Fa (by omega), Fa (by omega), Fa (by rw [aU]; omega), dk _ _ hi, ei, w64 (x := f i * 3303) (by omega) (by omega), Int.tmod_eq_emod_of_nonneg (show 0 ≤ f i * 3303 by omega), Int.toNat_natCast, nz, dz i (by omega)]
 ·refine Ev.step (f := fun _ => some (vec (kD f 256))) (fun k => ?_) ?_
  ·simp only [ao.l3]
   rw [Ga (by omega)]
  ·rw [o5]; exact Ev.now _
theorem mJ (f : Nat → Int) (hf : ∀ i, 0 ≤ f i ∧ f i ≤ 3328) : Ev (fun k => ag.f k (vec f)) (vec (ro f)) := by
 have core : Ev (fun k => ag.l0 k (vec f) 127 2) (vec (ro f)) := by
  have i1 := eH (s := 2) (m := 64) hf 64
  have i2 := eH (s := 4) (m := 32) i1 32
  have i3 := eH (s := 8) (m := 16) i2 16
  have i4 := eH (s := 16) (m := 8) i3 8
  have i5 := eH (s := 32) (m := 4) i4 4
  have i6 := eH (s := 64) (m := 2) i5 2
  have i7 := eH (s := 128) (m := 1) i6 1
  refine dQ 2 64 (by decide) (by decide) (by decide) f hf ?_
  refine dQ 4 32 (by decide) (by decide) (by decide) _ i1 ?_
  refine dQ 8 16 (by decide) (by decide) (by decide) _ i2 ?_
  refine dQ 16 8 (by decide) (by decide) (by decide) _ i3 ?_
  refine dQ 32 4 (by decide) (by decide) (by decide) _ i4 ?_
  refine dQ 64 2 (by decide) (by decide) (by decide) _ i5 ?_
  refine dQ 128 1 (by decide) (by decide) (by decide) _ i6 ?_
  refine Ev.step (fun k => ?_) (mC _ i7)
  simp only [ag.l0]
  rw [Ga (by decide), aU]
 unfold ag.f
 have ok := dL (f := f) fun i _ => hf i
 have ln := aU f
 refine Ev.bind (ok ▸ dn (vec f) (by omega)) (Ev.pos rfl ?_)
 refine Ev.then (a := vec f) ?_ core
 unfold dx.f
 rw [Fa (by rw [ln]; decide), List.nil_append]
theorem mf (f : Nat → Int) (hf : ∀ i, 0 ≤ f i ∧ f i ≤ 3328) : Ev (fun k => ao.f k (vec f)) (vec (ro f)) := by
 have core : Ev (fun k => ao.l0 k (vec f) 127 2) (vec (ro f)) := by
  have i1 := eH (s := 2) (m := 64) hf 64
  have i2 := eH (s := 4) (m := 32) i1 32
  have i3 := eH (s := 8) (m := 16) i2 16
  have i4 := eH (s := 16) (m := 8) i3 8
  have i5 := eH (s := 32) (m := 4) i4 4
  have i6 := eH (s := 64) (m := 2) i5 2
  have i7 := eH (s := 128) (m := 1) i6 1
  refine dT 2 64 (by decide) (by decide) (by decide) f hf ?_
  refine dT 4 32 (by decide) (by decide) (by decide) _ i1 ?_
  refine dT 8 16 (by decide) (by decide) (by decide) _ i2 ?_
  refine dT 16 8 (by decide) (by decide) (by decide) _ i3 ?_
  refine dT 32 4 (by decide) (by decide) (by decide) _ i4 ?_
  refine dT 64 2 (by decide) (by decide) (by decide) _ i5 ?_
  refine dT 128 1 (by decide) (by decide) (by decide) _ i6 ?_
  refine Ev.step (fun k => ?_) (mB _ i7)
  simp only [ao.l0]
  rw [Ga (by decide)]
 unfold ao.f
 have ok := dL (f := f) fun i _ => hf i
 have ln := aU f
 refine Ev.bind (ok ▸ cR (vec f)) (Ev.pos rfl ?_)
 simp only [Option.bind_some]
 refine Ev.pos (by rw [ln]; decide) ?_
 rw [List.nil_append]
 exact core
def gam (i : Nat) : Int := pw 17 (2 * t7s i 7 + 1)
theorem pu (i : Nat) : 0 ≤ gam i ∧ gam i ≤ 3328 := tq _ _
def mnE (a b : Nat → Int) (i : Nat) : Int := (a (2 * i) * b (2 * i) + a (2 * i + 1) * b (2 * i + 1) % 3329 * gam i) % 3329
def mnO (a b : Nat → Int) (i : Nat) : Int := (a (2 * i) * b (2 * i + 1) + a (2 * i + 1) * b (2 * i)) % 3329
def de (a b : Nat → Int) (n : Nat) : Int := if n % 2 = 0 then mnE a b (n / 2) else mnO a b (n / 2)
theorem nx (a b : Nat → Int) (i : Nat) : de a b (2 * i) = mnE a b i := by
 unfold de; rw [Fa (by omega), show 2 * i / 2 = i by omega]
theorem nA (a b : Nat → Int) (i : Nat) : de a b (2 * i + 1) = mnO a b i := by
 unfold de; rw [Ga (by omega), show (2 * i + 1) / 2 = i by omega]
theorem pH (a b : Nat → Int) (n : Nat) : 0 ≤ de a b n ∧ de a b n ≤ 3328 := by
 unfold de mnE mnO
 split
 ·exact eC _
 ·exact eC _
theorem tD (i : Nat) : wrap64 ((wrap64 (2 * ((t7s i 7 : Nat) : Int))) + 1) = ((2 * t7s i 7 + 1 : Nat) : Int) := by
 have h := nD i
 have h1 : t7s i 7 ≤ 100000 := by omega
 have h2 : 2 * t7s i 7 < 9223372036854775807 := by omega
 rw [pT _ h1, dz _ h2]
theorem oT (i : Nat) : 2 * t7s i 7 + 1 ≤ 1000000000 := by have := nD i; omega
theorem tr (a b : Nat → Int) (ha : ∀ i, 0 ≤ a i ∧ a i ≤ 3328) (hb : ∀ i, 0 ≤ b i ∧ b i ≤ 3328) (i : Nat) :
  wrap64 ((wrap64 (a (2 * i) * b (2 * i))) + (wrap64 ((Int.tmod (wrap64 (a (2 * i + 1) * b (2 * i + 1))) 3329) * gam i))) = a (2 * i) * b (2 * i) + a (2 * i + 1) * b (2 * i + 1) % 3329 * gam i := by
 have h1 := fV (ha (2 * i)) (hb (2 * i))
 have h2 := fV (eC (a (2 * i + 1) * b (2 * i + 1))) (pu i)
 rw [jp (ha _) (hb _), kk (ha _) (hb _), kk (eC _) (pu i)]
 exact w64 (by omega) (by omega)
theorem pX (a b : Nat → Int) (ha : ∀ i, 0 ≤ a i ∧ a i ≤ 3328) (hb : ∀ i, 0 ≤ b i ∧ b i ≤ 3328) (i : Nat) : 0 ≤ a (2 * i) * b (2 * i) + a (2 * i + 1) * b (2 * i + 1) % 3329 * gam i ∧ a (2 * i) * b (2 * i) + a (2 * i + 1) * b (2 * i + 1) % 3329 * gam i ≤ 9223372036854775807 := by
 have h1 := fV (ha (2 * i)) (hb (2 * i))
 have h2 := fV (eC (a (2 * i + 1) * b (2 * i + 1))) (pu i)
 omega
theorem tw (a b : Nat → Int) (ha : ∀ i, 0 ≤ a i ∧ a i ≤ 3328) (hb : ∀ i, 0 ≤ b i ∧ b i ≤ 3328) (i : Nat) :
  wrap64 ((wrap64 (a (2 * i) * b (2 * i + 1))) + (wrap64 (a (2 * i + 1) * b (2 * i)))) = a (2 * i) * b (2 * i + 1) + a (2 * i + 1) * b (2 * i) := by
 have h1 := fV (ha (2 * i)) (hb (2 * i + 1))
 have h2 := fV (ha (2 * i + 1)) (hb (2 * i))
 rw [kk (ha _) (hb _), kk (ha _) (hb _)]
 exact w64 (by omega) (by omega)
theorem si (a b : Nat → Int) (ha : ∀ i, 0 ≤ a i ∧ a i ≤ 3328) (hb : ∀ i, 0 ≤ b i ∧ b i ≤ 3328) (i : Nat) : 0 ≤ a (2 * i) * b (2 * i + 1) + a (2 * i + 1) * b (2 * i) ∧ a (2 * i) * b (2 * i + 1) + a (2 * i + 1) * b (2 * i) ≤ 9223372036854775807 := by
 have h1 := fV (ha (2 * i)) (hb (2 * i + 1))
 have h2 := fV (ha (2 * i + 1)) (hb (2 * i))
 omega
theorem l6 (a b : Nat → Int) (ha : ∀ i, 0 ≤ a i ∧ a i ≤ 3328) (hb : ∀ i, 0 ≤ b i ∧ b i ≤ 3328) : Ev (fun k => bh.f k (vec a) (vec b)) (vec (de a b)) := by
 have core : Ev (fun k => bh.l0 k (vec a) (vec b) (List.replicate 256 0) 0) (vec (de a b)) := by
  rw [gh]
  have key := Ev.up (g := fun i k => bh.l0 k (vec a) (vec b) (vec fun n => if n < 2 * i then de a b n else 0) (i : Int)) (r := vec (de a b)) 128 ?_ ?_ 0 (by omega)
  ·have e : (vec fun _ => (0 : Int)) = vec fun n => if n < 2 * 0 then de a b n else 0 := dP fun n _ => by rw [Ga (by omega)]
   rw [e]; exact key
  ·intro i hi h
   obtain ⟨K1, h1⟩ := hH i hi 
   obtain ⟨K2, h2⟩ := iJ 17 (by decide) (2 * t7s i 7 + 1) (oT i)
   obtain ⟨K3, h3⟩ := h
   refine ⟨K1 + K2 + K3 + 1, fun k hk => ?_⟩
   obtain ⟨m, rfl⟩ : ∃ m, k = m + 1 := ⟨k - 1, by omega⟩
   have e1 : bz.f m (i : Int) = some ((t7s i 7 : Nat) : Int) := h1 m (by omega)
   have e2 : bF.f m 17 ((2 * t7s i 7 + 1 : Nat) : Int) = some (pw 17 (2 * t7s i 7 + 1)) := h2 m (by omega)
   have e3 := h3 m (by omega)
   have c0 : 2 * i < 256 := by omega
   have c1 : 2 * i + 1 < 256 := by omega
   have b0 : i ≤ 100000 := by omega
   have b1 : 2 * i < 9223372036854775807 := by omega
   have b2 : i < 9223372036854775807 := by omega
   have be := pX a b ha hb i
   have bo := si a b ha hb i
   have bem : -9223372036854775808 ≤ a (2 * i) * b (2 * i) + a (2 * i + 1) * b (2 * i + 1) % 3329 * gam i := Int.le_trans (by decide) be.1
   have bom : -9223372036854775808 ≤ a (2 * i) * b (2 * i + 1) + a (2 * i + 1) * b (2 * i) := Int.le_trans (by decide) bo.1
   have ee : (vec fun n => if n = 2 * i + 1 then mnO a b i else if n = 2 * i then mnE a b i else if n < 2 * i then de a b n else 0) = vec fun n => if n < 2 * (i + 1) then de a b n else 0 := by
    refine dP fun n _ => ?_
    by_cases h1 : n = 2 * i + 1
    ·subst h1; rw [Fa rfl, Fa (by omega), nA]
    ·rw [Ga h1]
     by_cases h2 : n = 2 * i
     ·subst h2; rw [Fa rfl, Fa (by omega), nx]
     ·rw [Ga h2]
      by_cases h3 : n < 2 * i
      ·rw [Fa h3, Fa (by omega)]
      ·rw [Ga h3, Ga (by omega)]
   clear h1 h2 h3 hk be
   simp only [bh.l0]
   rw [Fa (show (i : Int) < 128 from Int.ofNat_lt.mpr hi), e1, Option.bind_some, tD, e2, Option.bind_some, pT i b0, dz (2 * i) b1, Fa (Int.natCast_nonneg _), aU, aU, aU, Fa (Int.ofNat_lt.mpr c0), Fa (Int.natCast_nonneg _), Fa (Int.ofNat_lt.mpr c1), Fa (Int.ofNat_lt.mpr c0), Fa (Int.ofNat_lt.mpr c1),
    dk _ _ c0, dk _ _ c0, dk _ _ c1, dk _ _ c1]
   rw [show pw 17 (2 * t7s i 7 + 1) = gam i from rfl, tr a b ha hb i, tw a b ha hb i, gg _ bem (pX a b ha hb i).2, Option.bind_some, Fa (Int.ofNat_lt.mpr c0), gg _ bom bo.2, Option.bind_some, Fa (Int.ofNat_lt.mpr c1), Int.toNat_natCast, Int.toNat_natCast, fH, fH, dz i b2]
   rw [show (a (2 * i) * b (2 * i) + a (2 * i + 1) * b (2 * i + 1) % 3329 * gam i) % 3329 = mnE a b i from rfl, show (a (2 * i) * b (2 * i + 1) + a (2 * i + 1) * b (2 * i)) % 3329 = mnO a b i from rfl, ee]
   exact e3
  ·refine Ev.step (f := fun _ => some (vec fun n => if n < 2 * 128 then de a b n else 0)) (fun k => ?_) ?_
   ·simp only [bh.l0]
    rw [Ga (by decide)]
   ·rw [dP (g := de a b) fun n hn => Fa hn]; exact Ev.now _
 unfold bh.f
 have oka := dL (f := a) fun i _ => ha i
 have okb := dL (f := b) fun i _ => hb i
 have la := aU a
 have lb := aU b
 refine Ev.bind (oka ▸ dn (vec a) (by omega)) (Ev.pos rfl (Ev.bind (okb ▸ dn (vec b) (by omega)) ?_))
 refine Ev.step (fun k => ?_) core
 simp only [bh.j0]
 rw [Ga (by decide), Fa (by decide)]
theorem mu (a b : Nat → Int) (ha : ∀ i, 0 ≤ a i ∧ a i ≤ 3328) (hb : ∀ i, 0 ≤ b i ∧ b i ≤ 3328) : Ev (fun k => az.f k (vec a) (vec b)) (vec (de a b)) := by
 have core : Ev (fun k => az.l0 k (vec a) (vec b) [] 0) (vec (de a b)) := by
  refine Ev.up (g := fun i k => az.l0 k (vec a) (vec b) ((vec (de a b)).take (2 * i)) (i : Int)) (r := vec (de a b)) 128 ?_ ?_ 0 (by omega)
  ·intro i hi h
   obtain ⟨K1, h1⟩ := g9 i hi 
   obtain ⟨K2, h2⟩ := iE 17 (by decide) (2 * t7s i 7 + 1) (oT i)
   obtain ⟨K3, h3⟩ := h
   refine ⟨K1 + K2 + K3 + 1, fun k hk => ?_⟩
   obtain ⟨m, rfl⟩ : ∃ m, k = m + 1 := ⟨k - 1, by omega⟩
   have e1 : aZ.f m (i : Int) = some ((t7s i 7 : Nat) : Int) := h1 m (by omega)
   have e2 : bn.f m 17 ((2 * t7s i 7 + 1 : Nat) : Int) = some (pw 17 (2 * t7s i 7 + 1)) := h2 m (by omega)
   have e3 := h3 m (by omega)
   have c0 : 2 * i < 256 := by omega
   have c1 : 2 * i + 1 < 256 := by omega
   have b0 : i ≤ 100000 := by omega
   have b1 : 2 * i < 9223372036854775807 := by omega
   have b2 : i < 9223372036854775807 := by omega
   have be := pX a b ha hb i
   have bo := si a b ha hb i
   have ln : (List.take (2 * i) (vec (de a b))).length + [mnE a b i, mnO a b i].length < 17592186044416 := by show _ + 2 < _; rw [List.length_take, aU]; omega
   have ee : List.take (2 * i) (vec (de a b)) ++ [mnE a b i, mnO a b i] = List.take (2 * (i + 1)) (vec (de a b)) := by
    have t1 := fY (vec (de a b)) (2 * i) (by rw [aU]; exact c0)
    have t2 := fY (vec (de a b)) (2 * i + 1) (by rw [aU]; exact c1)
    rw [fI, nx] at t1
    rw [fI, nA] at t2
    rw [show 2 * (i + 1) = 2 * i + 1 + 1 by omega, ← t2, ← t1, List.append_assoc]
    rfl
   clear h1 h2 h3 hk
   simp only [az.l0]
   rw [Fa (show (i : Int) < 128 from Int.ofNat_lt.mpr hi), e1, Option.bind_some, tD, e2, Option.bind_some, pT i b0, dz (2 * i) b1, Fa (Int.natCast_nonneg _), aU, aU, Fa (Int.ofNat_lt.mpr c1), Fa (Int.ofNat_lt.mpr c1), Fa (Int.natCast_nonneg _), Fa (Int.ofNat_lt.mpr c0), Fa (Int.ofNat_lt.mpr c0),
    dk _ _ c0, dk _ _ c0, dk _ _ c1, dk _ _ c1, Option.bind_some]
   rw [show pw 17 (2 * t7s i 7 + 1) = gam i from rfl, tr a b ha hb i, tw a b ha hb i, Int.tmod_eq_emod_of_nonneg be.1, Int.tmod_eq_emod_of_nonneg bo.1, dz i b2]
   rw [show (a (2 * i) * b (2 * i) + a (2 * i + 1) * b (2 * i + 1) % 3329 * gam i) % 3329 = mnE a b i from rfl, show (a (2 * i) * b (2 * i + 1) + a (2 * i + 1) * b (2 * i)) % 3329 = mnO a b i from rfl]
   rw [Fa ln, ee]
   exact e3
  ·refine Ev.step (f := fun _ => some (List.take (2 * 128) (vec (de a b)))) (fun k => ?_) ?_
   ·simp only [az.l0]
    rw [Ga (by decide)]
   ·rw [List.take_of_length_le (by rw [aU]; decide)]; exact Ev.now _
 unfold az.f
 have oka := dL (f := a) fun i _ => ha i
 have okb := dL (f := b) fun i _ => hb i
 simp only [Option.bind_some]
 refine Ev.bind (oka ▸ cR (vec a)) (Ev.pos rfl (Ev.bind (okb ▸ cR (vec b)) ?_))
 refine Ev.step (fun k => ?_) core
 simp only [az.j0]
 rw [Ga (by decide)]
/-! a layer, place by place -/
def jl (d : Int) : Int := if 3329 - d < d then 3329 - d else d
def dst (x y : Int) : Int := jl ((x - y) % 3329)
theorem tJ (x y : Int) : 0 ≤ dst x y ∧ dst x y ≤ 1664 := by
 unfold dst jl
 split <;> omega
/-- The greatest of the first n. -/
def ij (f : Nat → Int) : Nat → Int
 | 0 => 0
 | n + 1 => mx (ij f n) (f n)
theorem ud {a b c : Int} (h1 : a ≤ c) (h2 : b ≤ c) : mx a b ≤ c := by unfold mx; split <;> omega
theorem qh (a b : Int) : a ≤ mx a b := by unfold mx; split <;> omega
theorem tf (a b : Int) : b ≤ mx a b := by unfold mx; split <;> omega
theorem r8 {f : Nat → Int} {n : Nat} {c : Int} (h0 : 0 ≤ c) (h : ∀ i, i < n → f i ≤ c) : ij f n ≤ c := by
 induction n with
 | zero => exact h0
 | succ n ih => exact ud (ih fun i hi => h i (by omega)) (h n (by omega))
theorem rZ (f : Nat → Int) (n : Nat) : 0 ≤ ij f n := by
 induction n with
 | zero => exact Int.le_refl _
 | succ n ih => exact Int.le_trans ih (qh _ _)
theorem rP (f : Nat → Int) {n i : Nat} (h : i < n) : f i ≤ ij f n := by
 induction n with
 | zero => omega
 | succ n ih =>
  by_cases e : i = n
  ·subst e; exact tf _ _
  ·exact Int.le_trans (ih (by omega)) (qh _ _)
theorem pj {f g : Nat → Int} {n : Nat} (h : ∀ i, i < n → f i = g i) : ij f n = ij g n := by
 induction n with
 | zero => rfl
 | succ n ih => simp only [ij]; rw [ih fun i hi => h i (by omega), h n (by omega)]
def lp (a b : Nat → Int) : Int := ij (fun i => dst (a i) (b i)) 256
theorem sX (a b : Nat → Int) : 0 ≤ lp a b ∧ lp a b ≤ 1664 := ⟨rZ _ _, r8 (by decide) fun i _ => (tJ _ _).2⟩
theorem sk {d : Int} (h0 : 0 ≤ d) (h1 : d ≤ 3328) : mn d (wrap64 (3329 - d)) = jl d := by
 unfold mn jl
 rw [w64 (by omega) (by omega)]
theorem oy (a b : Nat → Int) (ha : ∀ i, 0 ≤ a i ∧ a i ≤ 3328) (hb : ∀ i, 0 ≤ b i ∧ b i ≤ 3328) : Ev (fun k => bS.f k (vec a) (vec b)) (lp a b) := by
 unfold bS.f
 have oka := dL (f := a) fun i _ => ha i
 have okb := dL (f := b) fun i _ => hb i
 refine Ev.bind (oka ▸ cR (vec a)) (Ev.pos rfl (Ev.bind (okb ▸ cR (vec b)) ?_))
 refine Ev.step (f := fun k => bS.l0 k (vec a) (vec b) 0 0) (fun k => ?_) ?_
 ·simp only [bS.j0]
  rw [Ga (by decide)]
 ·refine Ev.up (g := fun i k => bS.l0 k (vec a) (vec b) (ij (fun i => dst (a i) (b i)) i) (i : Int)) (r := lp a b) 256 ?_ ?_ 0 (by omega)
  ·intro i hi h
   refine Ev.step (fun k => ?_) h
   have h1 := ha i
   have h2 := hb i
   have hd : 0 ≤ (a i - b i) % 3329 ∧ (a i - b i) % 3329 ≤ 3328 := eC _
   have e : Int.tmod (wrap64 (wrap64 (a i - b i) + 3329)) 3329 = (a i - b i) % 3329 := by
    rw [w64 (x := a i - b i) (by omega) (by omega), w64 (by omega) (by omega), Int.tmod_eq_emod_of_nonneg (by omega)]; omega
   have e2 : wrap64 (3329 - (a i - b i) % 3329) = 3329 - (a i - b i) % 3329 := w64 (by omega) (by omega)
   simp only [bS.l0]
   rw [Fa (show (i : Int) < 256 from Int.ofNat_lt.mpr hi), Fa (Int.natCast_nonneg _), aU, aU, Fa (Int.ofNat_lt.mpr hi), Fa (Int.ofNat_lt.mpr hi), dk a i hi, dk b i hi, e, e2, dz i (Nat.lt_trans hi (by decide))]
   clear e e2
   have ed : dst (a i) (b i) = jl ((a i - b i) % 3329) := rfl
   show _ = bS.l0 k (vec a) (vec b) (mx (ij (fun i => dst (a i) (b i)) i) (dst (a i) (b i))) ((i + 1 : Nat) : Int)
   rw [ed]
   unfold jl mx
   by_cases c : 3329 - (a i - b i) % 3329 < (a i - b i) % 3329
   ·rw [Fa c, Fa c]
    by_cases c2 : 3329 - (a i - b i) % 3329 > ij (fun i => dst (a i) (b i)) i
    ·rw [Fa c2, Fa c2]
    ·rw [Ga c2, Ga c2]
   ·rw [Ga c, Ga c]
    by_cases c2 : (a i - b i) % 3329 > ij (fun i => dst (a i) (b i)) i
    ·rw [Fa c2, Fa c2]
    ·rw [Ga c2, Ga c2]
  ·refine Ev.step (f := fun _ => some (lp a b)) (fun k => ?_) (Ev.now _)
   simp only [bS.l0]
   rw [Ga (by decide)]
   rfl
theorem ox (a b : Nat → Int) (ha : ∀ i, 0 ≤ a i ∧ a i ≤ 3328) (hb : ∀ i, 0 ≤ b i ∧ b i ≤ 3328) : Ev (fun k => cm.f k (vec a) (vec b)) (lp a b) := by
 unfold cm.f
 refine Ev.bind (iY a b ha hb) (Ev.neg (by rw [aU]; decide) ?_)
 rw [aU]
 refine Ev.up (g := fun i k => cm.l0 k (ij (fun i => dst (a i) (b i)) i) (vec fun i => (a i - b i) % 3329) ((256 : Nat) : Int) (i : Int)) (r := lp a b) 256 ?_ ?_ 0 (by omega)
 ·intro i hi h
  refine Ev.step (fun k => ?_) h
  have hd : 0 ≤ (a i - b i) % 3329 ∧ (a i - b i) % 3329 ≤ 3328 := eC _
  simp only [cm.l0]
  rw [aU, Fa (Int.ofNat_lt.mpr hi), Fa (Int.natCast_nonneg _), Fa (Int.ofNat_lt.mpr hi), dk _ i hi, sk hd.1 hd.2, dz i (Nat.lt_trans hi (by decide))]
  rfl
 ·refine Ev.step (f := fun _ => some (lp a b)) (fun k => ?_) (Ev.now _)
  simp only [cm.l0]
  rw [Ga (by omega)]
  rfl
def gw (s : ByteArray) : List (List Int) × Bool :=
 if (cY (s.extract 0 384)).2 = true then
  if (cY (s.extract 384 768)).2 = true then ([(cY (s.extract 0 384)).1, (cY (s.extract 384 768)).1], true) else ([], false)
 else ([], false)
theorem kw (s : ByteArray) (hs : 768 ≤ s.size) : Ev (fun k => bp.f k s) (gw s) := by
 unfold bp.f gw
 have e0 : wrap64 ((0 : Int) * 384) = 0 := by rw [w64 (by omega) (by omega)]; rfl
 have e2 : wrap64 ((0 : Int) + 1) = 1 := by rw [w64 (by omega) (by omega)]; rfl
 have e3 : wrap64 ((1 : Int) * 384) = 384 := by rw [w64 (by omega) (by omega)]; rfl
 have e5 : wrap64 ((1 : Int) + 1) = 2 := by rw [w64 (by omega) (by omega)]; rfl
 have e4 : wrap64 ((2 : Int) * 384) = 768 := by rw [w64 (by omega) (by omega)]; rfl
 refine Ev.step (f := fun k => (cv.f k (s.extract 0 384)).bind fun bt => (if bt.2 = true then (bp.l0 k s ([] ++ [bt.1]) 1) else (some ([], false)))) (fun k => ?_) ?_
 ·simp only [bp.l0, e0, e2, e3]
  rw [Fa (by omega), Fa (by omega), Fa (by omega), Fa (by omega)]
  simp only [Fa (show (([] : List (List Int)).length < 5864062014805) from (by rw [List.length_nil]; omega))]
  rfl
 refine Ev.bind (ia _) ?_
 by_cases h0 : (cY (s.extract 0 384)).2 = true
 ·refine Ev.pos h0 ?_
  rw [Fa h0]
  refine Ev.step (f := fun k => (cv.f k (s.extract 384 768)).bind fun bt => (if bt.2 = true then (bp.l0 k s ([(cY (s.extract 0 384)).1] ++ [bt.1]) 2) else (some ([], false)))) (fun k => ?_) ?_
  ·simp only [bp.l0, e3, e4, e5]
   rw [Fa (by omega), Fa (by omega), Fa (by omega), Fa (by omega)]
   rfl
  refine Ev.bind (ia _) ?_
  by_cases h1 : (cY (s.extract 384 768)).2 = true
  ·refine Ev.pos h1 ?_
   rw [Fa h1]
   refine Ev.step (f := fun k => some ([(cY (s.extract 0 384)).1] ++ [(cY (s.extract 384 768)).1], true)) (fun k => ?_) (Ev.now _)
   simp only [bp.l0]
   rw [Ga (by omega)]
  ·rw [Ga h1]; exact Ev.neg h1 (Ev.now _)
 ·rw [Ga h0]; exact Ev.neg h0 (Ev.now _)
theorem gx (s : ByteArray) (hs : 768 ≤ s.size) : Ev (fun k => bg.f k s) (gw s) := by
 unfold bg.f gw
 have e0 : wrap64 ((0 : Int) * 384) = 0 := by rw [w64 (by omega) (by omega)]; rfl
 have e2 : wrap64 ((0 : Int) + 1) = 1 := by rw [w64 (by omega) (by omega)]; rfl
 have e3 : wrap64 ((1 : Int) * 384) = 384 := by rw [w64 (by omega) (by omega)]; rfl
 have e5 : wrap64 ((1 : Int) + 1) = 2 := by rw [w64 (by omega) (by omega)]; rfl
 have e4 : wrap64 ((2 : Int) * 384) = 768 := by rw [w64 (by omega) (by omega)]; rfl
 refine Ev.step (f := fun k => (cu.f k (s.extract 0 384)).bind fun bt => (if bt.2 = true then (bg.l0 k s ([] ++ [bt.1]) 1) else (some ([], false)))) (fun k => ?_) ?_
 ·simp only [bg.l0, e0, e2, e3]
  rw [Fa (by omega), Fa (by omega), Fa (by omega), Fa (by omega)]
  simp only [Fa (show (([] : List (List Int)).length < 5864062014805) from (by rw [List.length_nil]; omega))]
  rfl
 refine Ev.bind (ig _) ?_
 by_cases h0 : (cY (s.extract 0 384)).2 = true
 ·refine Ev.pos h0 ?_
  rw [Fa h0]
  refine Ev.step (f := fun k => (cu.f k (s.extract 384 768)).bind fun bt => (if bt.2 = true then (bg.l0 k s ([(cY (s.extract 0 384)).1] ++ [bt.1]) 2) else (some ([], false)))) (fun k => ?_) ?_
  ·simp only [bg.l0, e3, e4, e5]
   rw [Fa (by omega), Fa (by omega), Fa (by omega), Fa (by omega)]
   rfl
  refine Ev.bind (ig _) ?_
  by_cases h1 : (cY (s.extract 384 768)).2 = true
  ·refine Ev.pos h1 ?_
   rw [Fa h1]
   refine Ev.step (f := fun k => some ([(cY (s.extract 0 384)).1] ++ [(cY (s.extract 384 768)).1], true)) (fun k => ?_) (Ev.now _)
   simp only [bg.l0]
   rw [Ga (by omega)]
  ·rw [Ga h1]; exact Ev.neg h1 (Ev.now _)
 ·rw [Ga h0]; exact Ev.neg h0 (Ev.now _)
def gB (s : ByteArray) : Bool := if (s.size : Int) = 800 then (gw s).2 else false
theorem ib (s : ByteArray) : Ev (fun k => ch.f k s) (gB s) := by
 unfold ch.f gB
 by_cases h : (s.size : Int) = 800
 ·rw [Fa h]; exact Ev.pos h (Ev.bind (gx s (by omega)) (Ev.now _))
 ·rw [Ga h]; exact Ev.neg h (Ev.now _)
theorem lF (a b : Nat → Int) (ha : ∀ i, 0 ≤ a i ∧ a i ≤ 3328) (hb : ∀ i, 0 ≤ b i ∧ b i ≤ 3328) : Ev (fun k => aM.f k (vec a) (vec b)) (vec fun i => (a i + b i) % 3329) := by
 have oka : Ev (fun k => ak.f k (vec a)) true := dL (f := a) (fun i _ => ha i) ▸ cR (vec a)
 have okb : Ev (fun k => ak.f k (vec b)) true := dL (f := b) (fun i _ => hb i) ▸ cR (vec b)
 unfold aM.f
 refine Ev.up (g := fun i k => aM.l0 k (vec a) (vec b) ((vec fun i => (a i + b i) % 3329).take i) (i : Int)) (r := vec fun i => (a i + b i) % 3329) 256 ?_ ?_ 0 (by omega)
 ·intro i hi h
  obtain ⟨K1, h1⟩ := oka
  obtain ⟨K2, h2⟩ := okb
  obtain ⟨K3, h3⟩ := h
  refine ⟨K1 + K2 + K3 + 1, fun k hk => ?_⟩
  obtain ⟨m, rfl⟩ : ∃ m, k = m + 1 := ⟨k - 1, by omega⟩
  have e1 : ak.f m (vec a) = some true := h1 m (by omega)
  have e2 : ak.f m (vec b) = some true := h2 m (by omega)
  have e3 := h3 m (by omega)
  have ln : (List.take i (vec fun i => (a i + b i) % 3329)).length < 17592186044416 := by rw [List.length_take, aU]; omega
  have t1 := fY (vec fun i => (a i + b i) % 3329) i (by rw [aU]; exact hi)
  rw [fI] at t1
  have hs : 0 ≤ a i + b i ∧ a i + b i ≤ 6656 := by have := ha i; have := hb i; omega
  have em : Int.tmod (wrap64 (a i + b i)) 3329 = (a i + b i) % 3329 := by
   rw [w64 (by omega) (by omega), Int.tmod_eq_emod_of_nonneg hs.1]
  simp only [aM.l0]
  rw [Fa (show (i : Int) < 256 from Int.ofNat_lt.mpr hi), e1, Option.bind_some, Fa rfl, e2, Option.bind_some, Fa rfl, Fa (Int.natCast_nonneg _), aU, aU, Fa (Int.ofNat_lt.mpr hi), Fa (Int.ofNat_lt.mpr hi), Fa ln, dk a i hi, dk b i hi, em, t1, dz i (Nat.lt_trans hi (by decide))]
  exact e3
 ·refine Ev.step (f := fun _ => some (List.take 256 (vec fun i => (a i + b i) % 3329))) (fun k => ?_) ?_
  ·simp only [aM.l0]
   rw [Ga (by decide)]
  ·rw [List.take_of_length_le (by rw [aU]; decide)]; exact Ev.now _
theorem ly (a b : Nat → Int) (ha : ∀ i, 0 ≤ a i ∧ a i ≤ 3328) (hb : ∀ i, 0 ≤ b i ∧ b i ≤ 3328) : Ev (fun k => aD.f k (vec a) (vec b)) (vec fun i => (a i - b i) % 3329) := by
 have oka : Ev (fun k => ak.f k (vec a)) true := dL (f := a) (fun i _ => ha i) ▸ cR (vec a)
 have okb : Ev (fun k => ak.f k (vec b)) true := dL (f := b) (fun i _ => hb i) ▸ cR (vec b)
 unfold aD.f
 simp only [Option.bind_some]
 refine Ev.bind oka (Ev.pos rfl (Ev.bind okb ?_))
 refine Ev.step (f := fun k => aD.l0 k (vec a) (vec b) [] 0) (fun k => ?_) ?_
 ·simp only [aD.j0]
  rw [Ga (by decide)]
 refine Ev.up (g := fun i k => aD.l0 k (vec a) (vec b) ((vec fun i => (a i - b i) % 3329).take i) (i : Int)) (r := vec fun i => (a i - b i) % 3329) 256 ?_ ?_ 0 (by omega)
 ·intro i hi h
  refine Ev.step (fun k => ?_) h
  have ln : (List.take i (vec fun i => (a i - b i) % 3329)).length < 17592186044416 := by rw [List.length_take, aU]; omega
  have t1 := fY (vec fun i => (a i - b i) % 3329) i (by rw [aU]; exact hi)
  rw [fI] at t1
  have hs : -3328 ≤ a i - b i ∧ a i - b i ≤ 3328 := by have := ha i; have := hb i; omega
  have em : Int.tmod (wrap64 (wrap64 (a i - b i) + 3329)) 3329 = (a i - b i) % 3329 := by
   rw [w64 (x := a i - b i) (by omega) (by omega), w64 (by omega) (by omega), Int.tmod_eq_emod_of_nonneg (by omega)]; omega
  simp only [aD.l0]
  rw [Fa (show (i : Int) < 256 from Int.ofNat_lt.mpr hi), Fa (Int.natCast_nonneg _), aU, aU, Fa (Int.ofNat_lt.mpr hi), Fa (Int.ofNat_lt.mpr hi), Fa ln, dk a i hi, dk b i hi, em, t1, dz i (Nat.lt_trans hi (by decide))]
 ·refine Ev.step (f := fun _ => some (List.take 256 (vec fun i => (a i - b i) % 3329))) (fun k => ?_) ?_
  ·simp only [aD.l0]
   rw [Ga (by decide)]
  ·rw [List.take_of_length_le (by rw [aU]; decide)]; exact Ev.now _
def j7 (m : ByteArray) (i : Nat) : Int := da (((bt m ((i / 8 : Nat) : Int)).toNat / 2 ^ (i % 8) % 2 : Nat) : Int) 1
def fa (m : ByteArray) : List Int := (List.range 256).map (j7 m)
theorem ga (m : ByteArray) : (fa m).length = 256 := by simp [fa]
theorem nE (m : ByteArray) (i : Nat) (h : i < (fa m).length) : (fa m)[i] = j7 m i := by simp [fa]
theorem rB (m : ByteArray) (i : Int) : bt m i = (((bt m i).toNat : Nat) : Int) ∧ (bt m i).toNat < 256 := by
 have := dM m i
 omega
theorem w8 (i : Nat) (h : i < 256) : wrap64 (Int.tdiv (i : Int) 8) = ((i / 8 : Nat) : Int) := by
 rw [Int.tdiv_eq_ediv_of_nonneg (by omega), w64 (by omega) (by omega)]; rfl
theorem m8 (i : Nat) : Int.tmod (i : Int) 8 = ((i % 8 : Nat) : Int) := by
 rw [Int.tmod_eq_emod_of_nonneg (by omega)]; rfl
theorem lD (m : ByteArray) (hm : m.size = 32) : Ev (fun k => aN.f k m) (fa m) := by
 unfold aN.f
 refine Ev.up (g := fun i k => aN.l0 k m ((fa m).take i) (i : Int)) (r := fa m) 256 ?_ ?_ 0 (by omega)
 ·intro i hi h
  have hb := rB m ((i / 8 : Nat) : Int)
  have c1 : i / 8 < m.size := by omega
  have ww : wrap64 (bt m ((i / 8 : Nat) : Int)) = (((bt m ((i / 8 : Nat) : Int)).toNat : Nat) : Int) := by
   rw [w64 (by omega) (by omega)]; exact hb.1
  have hlt := hb.2
  have ln : (List.take i (fa m)).length < 17592186044416 := by rw [List.length_take, ga]; omega
  have t1 := fY (fa m) i (by rw [ga]; exact hi)
  rw [nE] at t1
  refine Ev.step (f := fun k => aN.l1 k m ((fa m).take i) (i : Int) (((bt m ((i / 8 : Nat) : Int)).toNat : Nat) : Int) 0) (fun k => ?_) ?_
  ·simp only [aN.l0]
   rw [Fa (show (i : Int) < 256 from Int.ofNat_lt.mpr hi), w8 i hi, Fa (Int.natCast_nonneg _), Fa (Int.ofNat_lt.mpr c1), ww]
  ·have hbit : j7 m i = da (((bt m ((i / 8 : Nat) : Int)).toNat / 2 ^ (i % 8) % 2 : Nat) : Int) 1 := rfl
   rw [hbit] at t1
   clear hbit ww hb
   generalize (bt m ((i / 8 : Nat) : Int)).toNat = u at t1 hlt ⊢
   have key := Ev.up (g := fun j k => aN.l1 k m ((fa m).take i) (i : Int) ((u / 2 ^ j : Nat) : Int) (j : Int)) (r := fa m) (i % 8) ?_ ?_ 0 (by omega)
   ·simpa using key
   ·intro j hj h'
    refine Ev.step (fun k => ?_) h'
    have hle : u / 2 ^ j ≤ u := Nat.div_le_self _ _
    have e2 := jS (u / 2 ^ j) (by omega)
    have e5 : u / 2 ^ j / 2 = u / 2 ^ (j + 1) := by rw [Nat.div_div_eq_div_mul, Nat.pow_succ]
    simp only [aN.l1]
    rw [m8, Fa (Int.ofNat_lt.mpr hj), e2, e5, dz j (by omega)]
   ·refine Ev.step (f := fun k => (br.f k ((u / 2 ^ (i % 8) % 2 : Nat) : Int) 1).bind fun t => aN.l0 k m ((fa m).take i ++ [t]) ((i + 1 : Nat) : Int)) (fun k => ?_) (Ev.bind (iT _ 1) ?_)
    ·simp only [aN.l1]
     rw [m8, Ga (Int.lt_irrefl _), mY, dz i (by omega)]
     simp only [Fa ln]
    ·rw [t1]
     exact h
 ·refine Ev.step (f := fun _ => some (fa m)) (fun k => ?_) (Ev.now _)
  simp only [aN.l0]
  rw [Ga (by decide), List.take_of_length_le (by rw [ga]; decide)]
theorem je (m : ByteArray) (hm : m.size = 32) : Ev (fun k => bC.f k m) (fa m) := by
 unfold bC.f
 refine Ev.pos (by decide) ?_
 simp only [Option.bind_some]
 rw [List.length_replicate]
 have e0 : List.take 0 (fa m) ++ List.replicate (256 - 0) (0 : Int) = List.replicate 256 0 := by rw [List.take_zero, List.nil_append]
 suffices key : Ev (fun k => bC.l0 k m (List.take 0 (fa m) ++ List.replicate (256 - 0) 0) ((256 : Nat) : Int) ((0 : Nat) : Int)) (fa m) by rw [e0] at key; exact key
 refine Ev.up (g := fun i k => bC.l0 k m ((fa m).take i ++ List.replicate (256 - i) 0) ((256 : Nat) : Int) (i : Int)) (r := fa m) 256 ?_ ?_ 0 (by omega)
 ·intro i hi h
  refine Ev.step (fun k => ?_) h
  have hb := rB m ((i / 8 : Nat) : Int)
  have hlt := hb.2
  have c1 : i / 8 < m.size := by omega
  have ew : wrap64 (Go.bits .and .u8 (shr .u8 (bt m ((i / 8 : Nat) : Int)) ((i % 8 : Nat) : Int)) 1) = (((bt m ((i / 8 : Nat) : Int)).toNat / 2 ^ (i % 8) % 2 : Nat) : Int) := by
   rw [hb.1]
   generalize (bt m ((i / 8 : Nat) : Int)).toNat = u at hlt ⊢
   have hle : u / 2 ^ (i % 8) ≤ u := Nat.div_le_self _ _
   have h2 : u / 2 ^ (i % 8) % 2 < 2 := Nat.mod_lt _ (by decide)
   rw [Int.toNat_natCast, lI .u8 u (i % 8) (by simp [IntKind.bits]; omega), qj _ (by omega)]
   generalize u / 2 ^ (i % 8) % 2 = v at h2 ⊢
   exact w64 (by omega) (by omega)
  have hset := oQ (fa m) 0 i (by rw [ga]; exact hi)
  rw [nE] at hset
  simp only [ga] at hset
  have hlen : (List.take i (fa m) ++ List.replicate (256 - i) 0).length = 256 := by rw [List.length_append, List.length_take, ga, List.length_replicate]; omega
  simp only [bC.l0]
  rw [Fa (Int.ofNat_lt.mpr hi), w8 i hi, Fa (Int.natCast_nonneg _), Fa (Int.ofNat_lt.mpr c1), m8, Fa (Int.natCast_nonneg _), ew, iS, Option.bind_some, Fa (Int.natCast_nonneg _), hlen, Fa (Int.ofNat_lt.mpr hi), Int.toNat_natCast, show da (((bt m ((i / 8 : Nat) : Int)).toNat / 2 ^ (i % 8) % 2 : Nat) : Int) 1 = j7 m i from rfl, hset, dz i (by omega)]
 ·refine Ev.step (f := fun _ => some (fa m)) (fun k => ?_) (Ev.now _)
  simp only [bC.l0]
  rw [Ga (by decide), List.take_of_length_le (by rw [ga]; decide), Nat.sub_self, List.replicate_zero, List.append_nil]
theorem mj (f : Int → Int) (l : List Int) (i : Nat) (h : i < l.length) : (l.take i).map f ++ [f l[i]] = (l.take (i + 1)).map f := by
 rw [← List.take_append_getElem h, List.map_append]; rfl
theorem map_set (f : Int → Int) (l : List Int) (i : Nat) (h : i < l.length) : ((l.take i).map f ++ l.drop i).set i (f l[i]) = (l.take (i + 1)).map f ++ l.drop (i + 1) := by
 rw [List.set_append_right _ _ (by rw [List.length_map, List.length_take]; omega), List.length_map, List.length_take, Nat.min_eq_left (by omega), Nat.sub_self, List.drop_eq_getElem_cons h, List.set_cons_zero, ← mj f l i h, List.append_assoc]
 rfl
theorem tW (f : Int → Int) (l : List Int) (i : Nat) (h : i < l.length) : rd ((l.take i).map f ++ l.drop i) (i : Int) = l[i] := by
 have hl : i < ((l.take i).map f ++ l.drop i).length := by simp; omega
 rw [dw _ _ hl, List.getElem_append_right (by rw [List.length_map, List.length_take]; omega)]
 simp only [List.length_map, List.length_take, Nat.min_eq_left (show i ≤ l.length by omega), Nat.sub_self, List.getElem_drop, Nat.add_zero]
def rH (s : ByteArray) (d : Int) : List Int := (dN s d 256).1.map fun y => da y d
theorem fw (s : ByteArray) (d : Int) : Ev (fun k => aC.f k s d) (rH s d) := by
 unfold aC.f rH
 refine Ev.bind (jk s d 256) ?_
 have hl := gq s d 256
 generalize (dN s d 256).1 = l at hl ⊢
 refine Ev.up (g := fun i k => aC.l0 k d ((l.take i).map (fun y => da y d) ++ l.drop i) (i : Int)) (r := l.map fun y => da y d) l.length ?_ ?_ 0 (by omega)
 ·intro i hi h
  have e := map_set (fun y => da y d) l i hi
  have e2 := tW (fun y => da y d) l i hi
  have hn : ((l.take i).map (fun y => da y d) ++ l.drop i).length = l.length := by simp; omega
  refine Ev.step (f := fun k => (br.f k l[i] d).bind fun t => aC.l0 k d (((l.take i).map (fun y => da y d) ++ l.drop i).set i t) ((i + 1 : Nat) : Int)) (fun k => ?_) (Ev.bind (iT l[i] d) ?_)
  ·simp only [aC.l0]
   rw [hn, Fa (Int.ofNat_lt.mpr hi), Fa (Int.natCast_nonneg _), e2, Int.toNat_natCast, dz i (by omega)]
  ·rw [e]
   exact h
 ·refine Ev.step (f := fun _ => some (l.map fun y => da y d)) (fun k => ?_) (Ev.now _)
  simp only [aC.l0]
  rw [Ga (by simp)]
  simp
theorem fS (l : List Int) (d : Int) (hl : l.length ≤ 1000) : Ev (fun k => ba.f k l d) (l.map fun y => da y d) := by
 unfold ba.f
 refine Ev.up (g := fun i k => ba.l0 k d ((l.take i).map fun y => da y d) l (l.length : Int) (i : Int)) (r := l.map fun y => da y d) l.length ?_ ?_ 0 (by omega)
 ·intro i hi h
  refine Ev.step (fun k => ?_) h
  have ln : ((l.take i).map fun y => da y d).length < 17592186044416 := by rw [List.length_map, List.length_take]; omega
  simp only [ba.l0]
  rw [Fa (Int.ofNat_lt.mpr hi), Fa (Int.natCast_nonneg _), Fa (Int.ofNat_lt.mpr hi), dw l i hi, iS, Option.bind_some, Fa ln, mj (fun y => da y d) l i hi, dz i (by omega)]
 ·refine Ev.step (f := fun _ => some (l.map fun y => da y d)) (fun k => ?_) (Ev.now _)
  simp only [ba.l0]
  rw [Ga (by omega), List.take_of_length_le (by omega)]
def sqV (l : List Int) (d : Int) : List Int := l.map fun y => gn y d
theorem s5 (l : List Int) (d : Nat) : (sqV l d).all (gG d) = true := by
 refine List.all_eq_true.mpr fun x hx => ?_
 obtain ⟨y, _, rfl⟩ := List.mem_map.mp hx
 refine ya ?_
 have e : (2 : Int) ^ (d : Int).toNat = 2 ^ d := by rw [Int.toNat_natCast]
 have hp : (1 : Int) ≤ 2 ^ d := by
  have h3 : (1 : Nat) ≤ 2 ^ d := Nat.one_le_two_pow
  have h4 : ((2 ^ d : Nat) : Int) = (2 : Int) ^ d := by simp
  omega
 by_cases h : (0 ≤ y ∧ y ≤ 3328) ∧ 1 ≤ (d : Int) ∧ (d : Int) ≤ 11
 ·rw [jj h.1 h.2, e]
  have := Int.emod_nonneg ((2 ^ d * y + 1664) / 3329) (show (2 : Int) ^ d ≠ 0 by omega)
  have := Int.emod_lt_of_pos ((2 ^ d * y + 1664) / 3329) (show (0 : Int) < 2 ^ d by omega)
  omega
 ·rw [iA h]
  omega
theorem fy (l : List Int) (d : Nat) (hl : l.length ≤ 1000) : Ev (fun k => bj.f k l (d : Int)) (sqV l d) := by
 unfold bj.f
 refine Ev.up (g := fun i k => bj.l0 k (d : Int) ((l.take i).map fun y => gn y d) l (l.length : Int) (i : Int)) (r := sqV l d) l.length ?_ ?_ 0 (by omega)
 ·intro i hi h
  refine Ev.step (fun k => ?_) h
  have ln : ((l.take i).map fun y => gn y d).length < 17592186044416 := by rw [List.length_map, List.length_take]; omega
  simp only [bj.l0]
  rw [Fa (Int.ofNat_lt.mpr hi), Fa (Int.natCast_nonneg _), Fa (Int.ofNat_lt.mpr hi), dw l i hi, lH, Option.bind_some, Fa ln, mj (fun y => gn y d) l i hi, dz i (by omega)]
 ·refine Ev.step (f := fun _ => some (sqV l d)) (fun k => ?_) (Ev.now _)
  simp only [bj.l0]
  rw [Ga (by omega), List.take_of_length_le (by omega)]
  rfl
theorem fg (l : List Int) (d : Nat) (h1 : 1 ≤ d) (h2 : d ≤ 11) (hl : l.length ≤ 1000) : Ev (fun k => aq.f k (sqV l d) (d : Int)) (d1 d (sqV l d)) :=
 gF (sqV l d) d h1 (by omega) (by unfold sqV; rw [List.length_map]; omega) (s5 l d)
theorem uL : wrap64 ((0 : Int) * 320) = 0 ∧ wrap64 (0 + 1) = 1 ∧ wrap64 ((1 : Int) * 320) = 320 ∧ wrap64 (1 + 1) = 2 ∧ wrap64 ((2 : Int) * 320) = 640 := by
 refine ⟨?_, ?_, ?_, ?_, ?_⟩ <;> (rw [w64 (by decide) (by decide)]; rfl)
def W64 (x : Int) : Prop := 0 ≤ x ∧ x < 18446744073709551616
theorem gr (x : Int) : IntKind.u64.wrap x = x % 18446744073709551616 := IntKind.wrap_u64 x
theorem W64.mod (x : Int) : W64 (x % 18446744073709551616) := by unfold W64; omega
theorem W64.wrap (x : Int) : W64 (IntKind.u64.wrap x) := by rw [gr]; exact W64.mod _
theorem W64.xor (a b : Int) : W64 (Go.bits .xor .u64 a b) := W64.wrap _
theorem W64.or (a b : Int) : W64 (Go.bits .or .u64 a b) := W64.wrap _
theorem qA : ∀ n : Int, 0 ≤ n → n < 2 ^ 64 → IntKind.u64.wrap n = n := fun n h0 h1 => by rw [gr]; omega
theorem tO (i : Nat) (x y : Int) (hx : W64 x) (hi : x % 2 ^ i = 0) (hy : W64 y) (hyi : y < 2 ^ i) : Go.bits .or .u64 x y = x + y :=
 bits_join .u64 64 (by decide) qA i x y hx.1 hi (by have := hx.2; omega) hy.1 hyi (by have := hy.2; omega)
theorem uu (i : Nat) (x y : Int) (hx : W64 x) (hxi : x < 2 ^ i) (hy : W64 y) (hi : y % 2 ^ i = 0) : Go.bits .or .u64 x y = x + y := by
 have h : Go.bits .or .u64 x y = Go.bits .or .u64 y x := by
  show IntKind.u64.wrap (((BitVec.ofInt 64 x ||| BitVec.ofInt 64 y).toNat : Nat) : Int) = IntKind.u64.wrap (((BitVec.ofInt 64 y ||| BitVec.ofInt 64 x).toNat : Nat) : Int)
  rw [BitVec.or_comm]
 rw [h, tO i y x hy hi hx hxi, Int.add_comm]
theorem sc (a b : Nat) (ha : a < 2 ^ 64) (hb : b < 2 ^ 64) : Go.bits .xor .u64 (a : Int) (b : Int) = ((a ^^^ b : Nat) : Int) := by
 show IntKind.u64.wrap (((BitVec.ofInt 64 (a : Int) ^^^ BitVec.ofInt 64 (b : Int)).toNat : Nat) : Int) = _
 have e1 : (BitVec.ofInt 64 (a : Int) ^^^ BitVec.ofInt 64 (b : Int)).toNat = a ^^^ b := by
  rw [BitVec.toNat_xor, BitVec.toNat_ofInt, BitVec.toNat_ofInt]
  congr 1 <;> omega
 rw [e1]
 have := Nat.xor_lt_two_pow ha hb
 exact qA _ (by omega) (by omega)
theorem o4 (x : Int) (h : W64 x) : Go.bits .xor .u64 0 x = x := by
 obtain ⟨n, rfl⟩ := Int.eq_ofNat_of_zero_le h.1
 have := sc 0 n (by omega) (by have := h.2; omega)
 rw [Nat.zero_xor] at this
 exact this
theorem rp (e : Int) (h : W64 e) : IntKind.u64.wrap (18446744073709551615 - e) = lW e := by
 obtain ⟨n, rfl⟩ := Int.eq_ofNat_of_zero_le h.1
 have hn : n < 18446744073709551616 := by have := h.2; omega
 unfold lW
 show _ = IntKind.u64.wrap (((BitVec.ofInt 64 18446744073709551615 ^^^ BitVec.ofInt 64 (n : Int)).toNat : Nat) : Int)
 have h1 : (BitVec.ofInt 64 18446744073709551615 ^^^ BitVec.ofInt 64 (n : Int)).toNat = 18446744073709551615 - n := by
  have e1 : BitVec.ofInt 64 18446744073709551615 = BitVec.allOnes 64 := by decide
  rw [e1, BitVec.allOnes_xor, BitVec.toNat_not, BitVec.toNat_ofInt]
  omega
 rw [h1, gr, gr]
 omega
theorem t8 (x : Int) (n : Nat) : W64 (jd x n) := W64.or _ _
theorem nk (x : Int) (h : W64 x) : jd x 0 = x := by
 unfold jd
 have h1 := h.1
 have h2 := h.2
 have e : x / 2 ^ (64 - 0) = 0 := Int.ediv_eq_zero_of_lt h1 (by simpa using h2)
 rw [e, gr, show x * 2 ^ 0 % 18446744073709551616 = x by omega, tO 0 x 0 h (by omega) ⟨by decide, by decide⟩ (by decide)]
 omega
/-- A hU turned left, by doubling. -/
theorem qY (x : Int) (n : Nat) (hn : n < 64) (r : Int) (h : Ev (fun k => bw.l0 k x (n : Int) ((2 ^ n : Nat) : Int) (n : Int)) r) : Ev (fun k => bw.f k x (n : Int)) r := by
 refine Ev.up (g := fun i k => bw.l0 k x (n : Int) ((2 ^ i : Nat) : Int) (i : Int)) n ?_ h 0 (Nat.zero_le _)
 intro i hi hh
 refine Ev.step (fun k => ?_) hh
 have hp : 2 ^ (i + 1) < 2 ^ 64 := Nat.pow_lt_pow_right (by decide) (by omega)
 simp only [bw.l0]
 rw [Fa (by omega), dz i (by omega), gr]
 congr 1
 rw [Nat.pow_succ] at hp ⊢
 omega
theorem qk (x : Int) (n : Nat) (h : W64 x) (hn : n < 64) : Ev (fun k => bw.f k x (n : Int)) (jd x n) := by
 refine qY x n hn _ ?_
 refine Ev.step (f := fun _ => some (jd x n)) (fun k => ?_) (Ev.now _)
 simp only [bw.l0]
 rw [Ga (by omega)]
 by_cases h0 : n = 0
 ·subst h0
  rw [Fa (by rfl), nk x h]
 rw [Ga (by omega)]
 obtain ⟨A, hA⟩ : ∃ A : Nat, A = 2 ^ n := ⟨_, rfl⟩
 obtain ⟨B, hB⟩ : ∃ B : Nat, B = 2 ^ (64 - n) := ⟨_, rfl⟩
 obtain ⟨C, hC⟩ : ∃ C : Nat, C = 2 ^ (63 - n) := ⟨_, rfl⟩
 have hA0 : 0 < A := by rw [hA]; exact Nat.pow_pos (by decide)
 have hC0 : 0 < C := by rw [hC]; exact Nat.pow_pos (by decide)
 have hCA : C * A = 9223372036854775808 := by rw [hA, hC, ← Nat.pow_add, show 63 - n + n = 63 by omega]
 have hBC : B = C * 2 := by rw [hB, hC, show 64 - n = 63 - n + 1 by omega, Nat.pow_succ]
 have hA2 : A < 18446744073709551616 := by have h4 : 2 ^ n < 2 ^ 64 := Nat.pow_lt_pow_right (by decide) hn; omega
 have hC2 : C ≤ 4611686018427387904 := by
  have : C ≤ 2 ^ 62 := by rw [hC]; exact Nat.pow_le_pow_right (by decide) (by omega)
  omega
 rw [← hA, Ga (by omega)]
 have e1 : Int.tdiv (9223372036854775808 : Int) (A : Int) = (C : Int) := by
  rw [Int.tdiv_eq_ediv_of_nonneg (by decide), show (9223372036854775808 : Int) = ((C * A : Nat) : Int) by rw [hCA]; rfl]
  rw [← Int.natCast_ediv, Nat.mul_div_cancel _ hA0]
 have e2 : IntKind.u64.wrap ((IntKind.u64.wrap (C : Int)) * 2) = (B : Int) := by rw [gr, gr]; omega
 rw [e1, e2, Ga (by omega)]
 have hx1 := h.1
 have hx2 := h.2
 rw [Int.tdiv_eq_ediv_of_nonneg hx1]
 obtain ⟨m, rfl⟩ := Int.eq_ofNat_of_zero_le hx1
 have hm : m < 18446744073709551616 := by omega
 have hBA : B * A = 18446744073709551616 := by rw [hBC, Nat.mul_assoc, Nat.mul_comm 2 A, ← Nat.mul_assoc, hCA]
 have hd : m / B < A := Nat.div_lt_of_lt_mul (by rw [hBA]; exact hm)
 have hlow : m * A % 18446744073709551616 = (m % B) * A := by
  rw [← hBA, Nat.mul_mod_mul_right]
 have hAi : (2 : Int) ^ n = (A : Int) := by rw [hA, Int.natCast_pow]; rfl
 have hBi : (2 : Int) ^ (64 - n) = (B : Int) := by rw [hB, Int.natCast_pow]; rfl
 have hq : ((m : Int) / 2 ^ (64 - n)) = ((m / B : Nat) : Int) := by rw [hBi, ← Int.natCast_ediv]
 have hp2 : IntKind.u64.wrap ((m : Int) * (A : Int)) = (((m % B) * A : Nat) : Int) := by
  rw [gr, ← hlow, ← Int.natCast_mul]
  generalize m * A = z
  omega
 have hp : IntKind.u64.wrap ((m : Int) * 2 ^ n) = (((m % B) * A : Nat) : Int) := by rw [hAi, hp2]
 have hlt : (m % B) * A < 18446744073709551616 := by rw [← hlow]; exact Nat.mod_lt _ (by decide)
 have hsum : (m % B) * A + m / B < 18446744073709551616 := by
  have h3 : (m % B + 1) * A ≤ B * A := Nat.mul_le_mul_right _ (Nat.mod_lt _ (by omega))
  rw [hBA, Nat.add_mul, Nat.one_mul] at h3
  omega
 unfold jd
 rw [hp, hp2, hq]
 have hmn : (((m % B) * A : Nat) : Int) % 2 ^ n = 0 := by rw [hAi, ← Int.natCast_emod, Nat.mul_mod_left]; rfl
 rw [← Int.natCast_ediv]
 generalize (m % B) * A = z at hlt hsum hmn ⊢
 generalize m / B = y at hd hsum ⊢
 rw [tO n (z : Int) (y : Int) ⟨by omega, by omega⟩ hmn ⟨by omega, by omega⟩ (by rw [hAi]; omega), gr, gr]
 congr 1
 omega
theorem fU (l : List Int) (i j : Nat) (v : Int) (hi : i < l.length) : rd (l.set i v) (j : Int) = if j = i then v else rd l (j : Int) := by
 rw [kA, kA, List.getD_eq_getElem?_getD, List.getD_eq_getElem?_getD, List.getElem?_set]
 by_cases h : i = j
 ·subst h
  rw [Fa rfl, Fa rfl, Fa hi]; rfl
 ·rw [Ga h, Ga (Ne.symm h)]
theorem gD (n j : Nat) : rd (List.replicate n 0) (j : Int) = 0 := by
 rw [kA, List.getD_eq_getElem?_getD]
 by_cases h : j < n
 ·rw [List.getElem?_replicate_of_lt h]; rfl
 ·rw [List.getElem?_eq_none (by rw [List.length_replicate]; omega)]; rfl
theorem jm {l u : List Int} (h : l.length = u.length) (hr : ∀ i : Nat, i < l.length → rd l (i : Int) = rd u (i : Int)) : l = u := by
 apply List.ext_getElem h
 intro i h1 h2
 have := hr i h1
 rw [dw l i h1, dw u i h2] at this
 exact this
theorem lT {P : Int → Prop} {l : List Int} (h : ∀ x ∈ l, P x) (i : Nat) (hi : i < l.length) : P (rd l (i : Int)) := by
 rw [dw l i hi]; exact h _ (List.getElem_mem hi)
def xr (a b : Int) : Int := Go.bits .xor .u64 a b
/-- A column's sum, n of its lanes. -/
def sQ (a : List Int) (x : Nat) : Nat → Int
 | 0 => 0
 | n + 1 => xr (sQ a x n) (rd a ((x + 5 * n : Nat) : Int))
theorem nG (a : List Int) (x : Nat) (hx : x < 5) : ∀ m, rd (thC a m) (x : Int) = sQ a x ((m + 4 - x) / 5)
 | 0 => by
  rw [show (0 + 4 - x) / 5 = 0 by omega]
  exact gD 5 x
 | m + 1 => by
  simp only [thC]
  rw [fU _ _ _ _ (by rw [j3]; omega), nG a x hx m]
  by_cases h : x = m % 5
  ·rw [Fa h, ← h, nG a x hx m, show (m + 1 + 4 - x) / 5 = (m + 4 - x) / 5 + 1 by omega]
   simp only [sQ, xr]
   rw [show x + 5 * ((m + 4 - x) / 5) = m by omega]
  ·rw [Ga h, show (m + 1 + 4 - x) / 5 = (m + 4 - x) / 5 by omega]
/-- What is mixed into column x. -/
def pn (c : List Int) (x : Nat) : Int := xr (rd c (((x + 4) % 5 : Nat) : Int)) (jd (rd c (((x + 1) % 5 : Nat) : Int)) 1)
theorem pP (a c : List Int) (i : Nat) : ∀ m, m ≤ a.length → rd (thA a c m) (i : Int) = if i < m then xr (rd a (i : Int)) (pn c (i % 5)) else rd a (i : Int)
 | 0, _ => by rw [Ga (by omega)]; rfl
 | m + 1, h => by
  simp only [thA]
  rw [fU _ _ _ _ (by rw [lK]; omega), pP a c i m (by omega)]
  by_cases e : i = m
  ·subst e
   rw [Fa rfl, Fa (by omega), pP a c i i (by omega), Ga (by omega)]
   rfl
  ·rw [Ga e]
   by_cases e2 : i < m
   ·rw [Fa e2, Fa (by omega)]
   ·rw [Ga e2, Ga (by omega)]
theorem pB (a : List Int) (i : Nat) : ∀ m, m ≤ 25 → rd (chA a m) (i : Int) = if i < m then xr (rd a (i : Int)) (Go.bits .and .u64 (lW (rd a (((i % 5 + 1) % 5 + 5 * (i / 5) : Nat) : Int))) (rd a (((i % 5 + 2) % 5 + 5 * (i / 5) : Nat) : Int))) else 0
 | 0, _ => by rw [Ga (by omega)]; exact gD 25 i
 | m + 1, h => by
  simp only [chA]
  rw [fU _ _ _ _ (by rw [gV]; omega), pB a i m (by omega)]
  by_cases e : i = m
  ·subst e
   rw [Fa rfl, Fa (by omega)]
   rfl
  ·rw [Ga e]
   by_cases e2 : i < m
   ·rw [Fa e2, Fa (by omega)]
   ·rw [Ga e2, Ga (by omega)]
/-- Where the lane at (x, y) iM. -/
def iM (x y : Nat) : Nat := y + 5 * ((2 * x + 3 * y) % 5)
theorem r5 : ∀ x < 5, ∀ y < 5, ∀ u < 5, ∀ v < 5, iM x y = iM u v → x = u ∧ y = v := by
 intro x hx y hy u hu v hv h
 unfold iM at h
 have e : y = v := by omega
 subst e
 have e2 : (2 * x + 3 * y) % 5 = (2 * u + 3 * y) % 5 := by omega
 clear h
 omega
theorem qb (x y : Nat) (hy : y < 5) : iM x y < 25 := by unfold iM; omega
theorem oB : ∀ i < 25, ∃ x < 5, ∃ y < 5, iM x y = i := by decide
def f7 : List Int := [0, 1, 62, 28, 27, 36, 44, 6, 55, 20, 3, 10, 43, 25, 39, 41, 45, 15, 21, 8, 18, 2, 61, 56, 14]
theorem ql : ∀ t < 24, (fv (t + 1)).1 + 5 * (fv (t + 1)).2 ≠ 0 := by decide
theorem tT : ∀ s < 24, ∀ t < 24, (fv (s + 1)).1 + 5 * (fv (s + 1)).2 = (fv (t + 1)).1 + 5 * (fv (t + 1)).2 → s = t := by decide
theorem rv (a : List Int) (s : Nat) (hs : s < 24) : ∀ t, t ≤ 24 → rd (rpA a t) (((fv (s + 1)).1 + 5 * (fv (s + 1)).2 : Nat) : Int) = if s < t then jd (rd a (((fv s).1 + 5 * (fv s).2 : Nat) : Int)) (rpN s) else 0
 | 0, _ => by
  rw [Ga (by omega)]
  simp only [rpA]
  rw [fU _ _ _ _ (by decide), Ga (ql s hs)]
  exact gD 25 _
 | t + 1, h => by
  simp only [rpA]
  have hl := ou (t + 1)
  rw [fU _ _ _ _ (by rw [iH]; omega), rv a s hs t (by omega)]
  by_cases e : s = t
  ·subst e
   rw [Fa rfl, Fa (by omega)]
  ·rw [Ga (fun h2 => e (tT s hs t (by omega) h2))]
   by_cases e2 : s < t
   ·rw [Fa e2, Fa (by omega)]
   ·rw [Ga e2, Ga (by omega)]
theorem qD (a : List Int) : ∀ t, t ≤ 24 → rd (rpA a t) ((0 : Nat) : Int) = rd a ((0 : Nat) : Int)
 | 0, _ => by
  simp only [rpA]
  rw [fU _ _ _ _ (by decide), Fa rfl]
 | t + 1, h => by
  simp only [rpA]
  have hl := ou (t + 1)
  rw [fU _ _ _ _ (by rw [iH]; omega), Ga (Ne.symm (ql t (by omega))), qD a t (by omega)]
theorem sy : ∀ x < 5, ∀ y < 5, (x = 0 ∧ y = 0) ∨ ∃ t < 24, (fv t).1 = x ∧ (fv t).2 = y ∧ iM x y = (fv (t + 1)).1 + 5 * (fv (t + 1)).2 ∧ rd f7 ((x + 5 * y : Nat) : Int) = ((rpN t : Nat) : Int) ∧ rpN t < 64 := by decide
/-- A lane turned and moved. -/
theorem oG (a : List Int) (ha : ∀ x ∈ a, W64 x) (hl : a.length = 25) (x y : Nat) (hx : x < 5) (hy : y < 5) : ∃ n < 64, rd f7 ((x + 5 * y : Nat) : Int) = ((n : Nat) : Int) ∧ rd (eE.v a) ((iM x y : Nat) : Int) = jd (rd a ((x + 5 * y : Nat) : Int)) n := by
 rcases sy x hx y hy with ⟨rfl, rfl⟩ | ⟨t, ht, h1, h2, h3, h4, h5⟩
 ·refine ⟨0, by decide, by decide, ?_⟩
  rw [nk _ (lT ha _ (by omega))]
  exact qD a 24 (Ca _)
 ·refine ⟨rpN t, h5, h4, ?_⟩
  rw [h3, eE.v, rv a t ht 24 (Ca _), Fa ht, h1, h2]
theorem oZ (a : List Int) (hl : a.length = 25) (i : Nat) (hi : i < 25) : rd (dR.v a) (i : Int) = xr (rd a (i : Int)) (pn (thC a 25) (i % 5)) := by
 unfold dR.v
 rw [pP a _ i 25 (by omega), Fa hi]
theorem oq {P : Int → Prop} {l : List Int} (h : ∀ i : Nat, i < l.length → P (rd l (i : Int))) : ∀ x ∈ l, P x := by
 intro x hx
 obtain ⟨i, hi, rfl⟩ := List.mem_iff_getElem.mp hx
 have := h i hi
 rw [dw l i hi] at this
 exact this
theorem sW (a : List Int) (hl : a.length = 25) : ∀ x ∈ dR.v a, W64 x :=
 oq fun i hi => by rw [oZ a hl i (by rw [kK a hl] at hi; exact hi)]; exact W64.xor _ _
theorem ui (a : List Int) : ∀ x ∈ eh.v a, W64 x :=
 oq fun i hi => by
  unfold eh.v at hi ⊢
  rw [gV] at hi
  rw [pB a i 25 (Ca _), Fa hi]; exact W64.xor _ _
theorem uF (a : List Int) (j : Nat) (hj : j < 5) : W64 (rd (thC a 25) (j : Int)) := by
 rw [nG a j hj 25, show (25 + 4 - j) / 5 = 5 by omega]
 exact W64.xor _ _
/-- The columns' i9, as the reference makes them. -/
def cL (a : List Int) : Nat → List Int
 | 0 => List.replicate 5 0
 | i + 1 => (cL a i).set i (xr (xr (xr (xr (rd a (i : Int)) (rd a ((i + 5 : Nat) : Int))) (rd a ((i + 10 : Nat) : Int))) (rd a ((i + 15 : Nat) : Int))) (rd a ((i + 20 : Nat) : Int)))
theorem mv (a : List Int) : ∀ i, (cL a i).length = 5
 | 0 => rfl
 | i + 1 => by simp only [cL, List.length_set, mv a i]
theorem tC (a : List Int) (j : Nat) : ∀ i, i ≤ 5 → j < i → rd (cL a i) (j : Int) = xr (xr (xr (xr (rd a (j : Int)) (rd a ((j + 5 : Nat) : Int))) (rd a ((j + 10 : Nat) : Int))) (rd a ((j + 15 : Nat) : Int))) (rd a ((j + 20 : Nat) : Int))
 | 0, _, h => absurd h (by omega)
 | i + 1, h, hj => by
  simp only [cL]
  rw [fU _ _ _ _ (by rw [mv]; omega)]
  by_cases e : j = i
  ·subst e; rw [Fa rfl]
  ·rw [Ga e, tC a j i (by omega) (by omega)]
theorem ub (a : List Int) (hl : a.length = 25) (ha : ∀ x ∈ a, W64 x) : cL a 5 = thC a 25 := by
 apply jm (by rw [mv, j3])
 intro i hi
 rw [mv] at hi
 rw [tC a i 5 (Ca _) hi, nG a i hi 25, show (25 + 4 - i) / 5 = 5 by omega]
 simp only [sQ, xr]
 rw [show i + 5 * 0 = i by omega, o4 _ (lT ha i (by omega))]
/-- The lanes turned and moved, n of them, as the reference makes them. -/
def bL (a : List Int) : Nat → List Int
 | 0 => List.replicate 25 0
 | n + 1 => (bL a n).set (iM (n / 5) (n % 5)) (jd (xr (rd a ((n / 5 + 5 * (n % 5) : Nat) : Int)) (pn (thC a 25) (n / 5))) (rd f7 ((n / 5 + 5 * (n % 5) : Nat) : Int)).toNat)
theorem jW (a : List Int) : ∀ i, (bL a i).length = 25
 | 0 => rfl
 | i + 1 => by simp only [bL, List.length_set, jW a i]
theorem rQ (a : List Int) (x y : Nat) (hx : x < 5) (hy : y < 5) : ∀ n, n ≤ 25 → 5 * x + y < n → rd (bL a n) ((iM x y : Nat) : Int) = jd (xr (rd a ((x + 5 * y : Nat) : Int)) (pn (thC a 25) x)) (rd f7 ((x + 5 * y : Nat) : Int)).toNat
 | 0, _, h => absurd h (by omega)
 | n + 1, h, hj => by
  simp only [bL]
  rw [fU _ _ _ _ (by rw [jW]; exact qb _ _ (by omega))]
  by_cases e : 5 * x + y = n
  ·have e1 : n / 5 = x := by omega
   have e2 : n % 5 = y := by omega
   rw [e1, e2, Fa rfl]
  ·rw [Ga (fun h2 => by have := r5 x hx y hy (n / 5) (by omega) (n % 5) (by omega) h2; omega), rQ a x y hx hy n (by omega) (by omega)]
theorem sm (a : List Int) (hl : a.length = 25) : bL a 25 = eE.v (dR.v a) := by
 apply jm (by rw [jW, ne])
 intro i hi
 rw [jW] at hi
 obtain ⟨x, hx, y, hy, rfl⟩ := oB i hi
 obtain ⟨n, hn, h1, h2⟩ := oG (dR.v a) (sW a hl) (kK a hl) x y hx hy
 rw [rQ a x y hx hy 25 (Ca _) (by omega), h1, h2, oZ a hl _ (by omega), show (x + 5 * y) % 5 = x by omega, Int.toNat_natCast]
/-- The rows mixed, n lanes, as the reference makes them. -/
def hL (b : List Int) : Nat → List Int
 | 0 => List.replicate 25 0
 | n + 1 => (hL b n).set (n / 5 + 5 * (n % 5)) (xr (rd b ((n / 5 + 5 * (n % 5) : Nat) : Int)) (Go.bits .and .u64 (lW (rd b (((n / 5 + 1) % 5 + 5 * (n % 5) : Nat) : Int))) (rd b (((n / 5 + 2) % 5 + 5 * (n % 5) : Nat) : Int))))
theorem kv (b : List Int) : ∀ i, (hL b i).length = 25
 | 0 => rfl
 | i + 1 => by simp only [hL, List.length_set, kv b i]
theorem tm (b : List Int) (x y : Nat) (hx : x < 5) (hy : y < 5) : ∀ n, n ≤ 25 → 5 * x + y < n → rd (hL b n) ((x + 5 * y : Nat) : Int) = xr (rd b ((x + 5 * y : Nat) : Int)) (Go.bits .and .u64 (lW (rd b (((x + 1) % 5 + 5 * y : Nat) : Int))) (rd b (((x + 2) % 5 + 5 * y : Nat) : Int)))
 | 0, _, h => absurd h (by omega)
 | n + 1, h, hj => by
  simp only [hL]
  rw [fU _ _ _ _ (by rw [kv]; omega)]
  by_cases e : 5 * x + y = n
  ·have e1 : n / 5 = x := by omega
   have e2 : n % 5 = y := by omega
   rw [e1, e2, Fa rfl]
  ·rw [Ga (by omega), tm b x y hx hy n (by omega) (by omega)]
theorem tZ (b : List Int) : hL b 25 = eh.v b := by
 apply jm (by rw [kv]; exact (gV _ _).symm)
 intro i hi
 rw [kv] at hi
 have h1 := tm b (i % 5) (i / 5) (by omega) (by omega) 25 (Ca _) (by omega)
 rw [show i % 5 + 5 * (i / 5) = i by omega] at h1
 rw [h1, eh.v, pB b i 25 (Ca _), Fa hi]
def pA (a : List Int) (rc : Int) : List Int := (fE a).set 0 (Go.bits .xor .u64 (rd (fE a) ((0 : Nat) : Int)) rc)
theorem rf (b : List Int) (hb : b.length = 25) (hw : ∀ x ∈ b, W64 x) (rc : Int) : Ev (fun k => ab.l3 k rc b (List.replicate 25 0) 0) ((eh.v b).set 0 (Go.bits .xor .u64 (rd (eh.v b) ((0 : Nat) : Int)) rc)) := by
 refine Ev.up (g := fun i k => ab.l3 k rc b (hL b (5 * i)) (i : Int)) 5 ?_ ?_ 0 (Nat.zero_le _)
 ·intro x hx hh
  refine Ev.step (f := fun k => ab.l4 k rc b (hL b (5 * x)) (x : Int) 0) (fun k => ?_) ?_
  ·simp only [ab.l3]
   rw [Fa (by omega)]
  ·refine Ev.up (g := fun j k => ab.l4 k rc b (hL b (5 * x + j)) (x : Int) (j : Int)) 5 ?_ ?_ 0 (Nat.zero_le _)
   ·intro y hy h2
    refine Ev.step (fun k => ?_) h2
    have e1 : wrap64 ((x : Int) + wrap64 (5 * (y : Int))) = ((x + 5 * y : Nat) : Int) := by
     rw [w64 (x := 5 * (y : Int)) (by omega) (by omega), w64 (by omega) (by omega)]; omega
    have e2 : wrap64 (Int.tmod (wrap64 ((x : Int) + 1)) 5 + wrap64 (5 * (y : Int))) = (((x + 1) % 5 + 5 * y : Nat) : Int) := by
     rw [w64 (x := (x : Int) + 1) (by omega) (by omega), w64 (x := 5 * (y : Int)) (by omega) (by omega), Int.tmod_eq_emod_of_nonneg (by omega), w64 (by omega) (by omega)]; omega
    have e3 : wrap64 (Int.tmod (wrap64 ((x : Int) + 2)) 5 + wrap64 (5 * (y : Int))) = (((x + 2) % 5 + 5 * y : Nat) : Int) := by
     rw [w64 (x := (x : Int) + 2) (by omega) (by omega), w64 (x := 5 * (y : Int)) (by omega) (by omega), Int.tmod_eq_emod_of_nonneg (by omega), w64 (by omega) (by omega)]; omega
    simp only [ab.l4, e1, e2, e3]
    have hl := kv b (5 * x + y)
    rw [Fa (by omega), Fa (by omega), Fa (by omega), Fa (by omega), Fa (by omega), Fa (by omega), Fa (by omega), Fa (by omega), dz y (by omega), rp _ (lT hw _ (by omega)), Int.toNat_natCast]
    congr 1
    show _ = hL b (5 * x + y + 1)
    simp only [hL, xr]
    rw [show (5 * x + y) / 5 = x by omega, show (5 * x + y) % 5 = y by omega]
   ·refine Ev.step (fun k => ?_) hh
    simp only [ab.l4]
    rw [Ga (by omega), dz x (by omega)]
    rfl
 ·refine Ev.step (f := fun _ => some ((eh.v b).set 0 (Go.bits .xor .u64 (rd (eh.v b) ((0 : Nat) : Int)) rc))) (fun k => ?_) (Ev.now _)
  simp only [ab.l3]
  have hl := kv b 25
  rw [Ga (by omega), show 5 * 5 = 25 from rfl, Fa (by omega), tZ]
  rfl
theorem sB (x y : Nat) (hx : x < 5) (hy : y < 5) : wrap64 ((y : Int) + wrap64 (5 * Int.tmod (wrap64 (wrap64 (2 * (x : Int)) + wrap64 (3 * (y : Int)))) 5)) = ((iM x y : Nat) : Int) := by
 have h1 : wrap64 (2 * (x : Int)) = 2 * (x : Int) := w64 (by omega) (by omega)
 have h2 : wrap64 (3 * (y : Int)) = 3 * (y : Int) := w64 (by omega) (by omega)
 have h3 : wrap64 (2 * (x : Int) + 3 * (y : Int)) = 2 * (x : Int) + 3 * (y : Int) := w64 (by omega) (by omega)
 rw [h1, h2, h3, Int.tmod_eq_emod_of_nonneg (by omega)]
 have h4 : wrap64 (5 * ((2 * (x : Int) + 3 * (y : Int)) % 5)) = 5 * ((2 * (x : Int) + 3 * (y : Int)) % 5) := w64 (by omega) (by omega)
 rw [h4, w64 (by omega) (by omega)]
 unfold iM
 omega
theorem tg (x y : Nat) (hx : x < 5) (hy : y < 5) : wrap64 ((x : Int) + wrap64 (5 * (y : Int))) = ((x + 5 * y : Nat) : Int) := by
 have h1 : wrap64 (5 * (y : Int)) = 5 * (y : Int) := w64 (by omega) (by omega)
 rw [h1, w64 (by omega) (by omega)]
 omega
theorem rJ (a c T : List Int) (B : Nat → List Int) (hl : a.length = 25) (rc : Int) (r : List Int) (hc : c.length = 5) (hcw : ∀ j : Nat, j < 5 → W64 (rd c (j : Int))) (htl : T.length = 25)
  (hT : ∀ x y : Nat, x < 5 → y < 5 → ∃ n < 64, rd T ((x + 5 * y : Nat) : Int) = ((n : Nat) : Int)) (hB0 : B 0 = List.replicate 25 0) (hBl : ∀ n, (B n).length = 25)
  (hBs : ∀ x y : Nat, x < 5 → y < 5 → B (5 * x + y + 1) = (B (5 * x + y)).set (iM x y) (jd (xr (rd a ((x + 5 * y : Nat) : Int)) (pn c x)) (rd T ((x + 5 * y : Nat) : Int)).toNat))
  (h : Ev (fun k => ab.l3 k rc (B 25) (List.replicate 25 0) 0) r) : Ev (fun k => ab.l1 k a T rc c (List.replicate 25 0) 0) r := by
 rw [← hB0]
 refine Ev.up (g := fun i k => ab.l1 k a T rc c (B (5 * i)) (i : Int)) 5 ?_ ?_ 0 (Nat.zero_le _)
 ·intro x hx hh
  have e1 : Int.tmod (wrap64 ((x : Int) + 4)) 5 = (((x + 4) % 5 : Nat) : Int) := by
   rw [w64 (x := (x : Int) + 4) (by omega) (by omega), Int.tmod_eq_emod_of_nonneg (by omega)]; omega
  have e2 : Int.tmod (wrap64 ((x : Int) + 1)) 5 = (((x + 1) % 5 : Nat) : Int) := by
   rw [w64 (x := (x : Int) + 1) (by omega) (by omega), Int.tmod_eq_emod_of_nonneg (by omega)]; omega
  refine Ev.step (f := fun k => (bw.f k (rd c (((x + 1) % 5 : Nat) : Int)) ((1 : Nat) : Int)).bind fun t => ab.l2 k a T rc c (B (5 * x)) (x : Int) (Go.bits .xor .u64 (rd c (((x + 4) % 5 : Nat) : Int)) t) ((0 : Nat) : Int)) (fun k => ?_) ?_
  ·simp only [ab.l1, e1, e2]
   rw [Fa (by omega), Fa (by omega), Fa (by omega), Fa (by omega), Fa (by omega)]
   rfl
  ·refine Ev.bind (qk _ 1 (hcw _ (by omega)) (by decide)) ?_
   have hm : Go.bits .xor .u64 (rd c (((x + 4) % 5 : Nat) : Int)) (jd (rd c (((x + 1) % 5 : Nat) : Int)) 1) = pn c x := rfl
   rw [hm]
   clear hm e1 e2
   have hB2 := fun y hy => hBs x y hx hy
   generalize pn c x = D at hB2 ⊢
   refine Ev.up (g := fun j k => ab.l2 k a T rc c (B (5 * x + j)) (x : Int) D (j : Int)) 5 ?_ ?_ 0 (Nat.zero_le _)
   ·intro y hy h2
    have hg := qb x y hy
    have hbl := hBl (5 * x + y)
    have c1 : (y : Int) < 5 := by omega
    have c2 : (0 : Int) ≤ ((x + 5 * y : Nat) : Int) := by omega
    have c3 : ((x + 5 * y : Nat) : Int) < (a.length : Int) := by rw [hl]; omega
    have c4 : ((x + 5 * y : Nat) : Int) < (T.length : Int) := by rw [htl]; omega
    have c5 : y < 9223372036854775807 := by omega
    have c6 : (0 : Int) ≤ ((iM x y : Nat) : Int) := by omega
    have c7 : ((iM x y : Nat) : Int) < ((B (5 * x + y)).length : Int) := by rw [hbl]; omega
    have e1 := tg x y hx hy
    have e2 := sB x y hx hy
    obtain ⟨n, hn, h3⟩ := hT x y hx hy
    refine Ev.step (f := fun k => (bw.f k (Go.bits .xor .u64 (rd a ((x + 5 * y : Nat) : Int)) D) ((n : Nat) : Int)).bind fun t => ab.l2 k a T rc c ((B (5 * x + y)).set (iM x y) t) (x : Int) D ((y + 1 : Nat) : Int)) (fun k => ?_) ?_
    ·simp only [ab.l2, e1, e2, h3]
     rw [Fa c1, Fa c2, Fa c3, Fa c4, dz y c5]
     congr 1
     funext t
     rw [Fa c6, Fa c7, Int.toNat_natCast]
    ·refine Ev.bind (qk _ n (W64.xor _ _) hn) ?_
     have h4 := hB2 y hy
     rw [h3, Int.toNat_natCast] at h4
     unfold xr at h4
     rw [show 5 * x + (y + 1) = 5 * x + y + 1 from rfl, h4] at h2
     exact h2
   ·refine Ev.step (fun k => ?_) hh
    simp only [ab.l2]
    rw [Ga (by omega), dz x (by omega), show 5 * x + 5 = 5 * (x + 1) by omega]
 ·refine Ev.step (fun k => ?_) h
  simp only [ab.l1]
  rw [Ga (by omega), Fa (by decide)]
theorem uI (a : List Int) (hl : a.length = 25) : ∀ x ∈ bL a 25, W64 x := by
 refine oq fun i hi => ?_
 rw [jW] at hi
 obtain ⟨x, hx, y, hy, rfl⟩ := oB i hi
 rw [rQ a x y hx hy 25 (Ca _) (by omega)]
 exact t8 _ _
theorem tN (a : List Int) (hl : a.length = 25) (ha : ∀ x ∈ a, W64 x) (rc : Int) : Ev (fun k => ab.l1 k a f7 rc (thC a 25) (List.replicate 25 0) 0) (pA a rc) := by
 refine rJ a (thC a 25) f7 (bL a) hl rc _ (j3 a 25) (uF a) rfl ?_ rfl (jW a) ?_ ?_
 ·intro x y hx hy
  obtain ⟨n, hn, h3, _⟩ := oG a ha hl x y hx hy
  exact ⟨n, hn, h3⟩
 ·intro x y hx hy
  simp only [bL]
  rw [show (5 * x + y) / 5 = x by omega, show (5 * x + y) % 5 = y by omega]
 ·have h := rf (bL a 25) (jW a 25) (uI a hl) rc
  rw [show eh.v (bL a 25) = fE a by rw [sm a hl]; rfl] at h
  exact h
theorem r7 (a : List Int) (hl : a.length = 25) (ha : ∀ x ∈ a, W64 x) (rc : Int) : Ev (fun k => ab.f k a f7 rc) (pA a rc) := by
 unfold ab.f
 refine Ev.pos (by decide) ?_
 refine Ev.up (g := fun i k => ab.l0 k a f7 rc (cL a i) (i : Int)) 5 ?_ ?_ 0 (Nat.zero_le _)
 ·intro i hi hh
  refine Ev.step (fun k => ?_) hh
  have hc := mv a i
  have e5 : wrap64 ((i : Int) + 5) = ((i + 5 : Nat) : Int) := by rw [w64 (by omega) (by omega)]; rfl
  have e10 : wrap64 ((i : Int) + 10) = ((i + 10 : Nat) : Int) := by rw [w64 (by omega) (by omega)]; rfl
  have e15 : wrap64 ((i : Int) + 15) = ((i + 15 : Nat) : Int) := by rw [w64 (by omega) (by omega)]; rfl
  have e20 : wrap64 ((i : Int) + 20) = ((i + 20 : Nat) : Int) := by rw [w64 (by omega) (by omega)]; rfl
  simp only [ab.l0, e5, e10, e15, e20]
  rw [Fa (by omega), Fa (by omega), Fa (by omega), Fa (by omega), Fa (by omega), Fa (by omega), Fa (by omega), Fa (by omega), Fa (by omega), Fa (by omega), Fa (by omega), Fa (by omega), dz i (by omega), Int.toNat_natCast]
  rfl
 ·refine Ev.step (f := fun k => ab.l1 k a f7 rc (thC a 25) (List.replicate 25 0) 0) (fun k => ?_) (tN a hl ha rc)
  simp only [ab.l0]
  rw [Ga (by omega), Fa (by decide), ub a hl ha]
theorem rW : Ev (fun k => bI.f k) f7 := Ev.of (fun k => bI.mono k) (k := 40) (by kernel_rfl)
def rcL : List Int := (List.range 24).map rcV
theorem qX : Ev (fun k => aJ.f k) rcL := Ev.of (fun k => aJ.mono k) (k := 300) (by kernel_rfl)
theorem t9 (t : Nat) (h : t < 24) : rd rcL (t : Int) = rcV t := by
 rw [dw _ t (by unfold rcL; simpa using h)]
 simp only [rcL, List.getElem_map, List.getElem_range]
theorem tk : rcL.length = 24 := by unfold rcL; simp
theorem rU (a : List Int) (rc : Int) : ∀ x ∈ pA a rc, W64 x := by
 intro x hx
 rcases List.mem_or_eq_of_mem_set hx with h | h
 ·exact ui _ x h
 ·rw [h]; exact W64.xor _ _
theorem qB (a : List Int) (ha : ∀ x ∈ a, W64 x) : ∀ t, ∀ x ∈ gY a t, W64 x
 | 0 => ha
 | t + 1 => rU _ _
theorem qa (a : List Int) (hl : a.length = 25) (ha : ∀ x ∈ a, W64 x) : Ev (fun k => aK.f k a) (cE.v a) := by
 unfold aK.f
 refine Ev.bind rW (Ev.bind qX ?_)
 refine Ev.up (g := fun i k => aK.l0 k (gY a i) f7 rcL (i : Int)) 24 ?_ ?_ 0 (Nat.zero_le _)
 ·intro t ht hh
  have c1 : (t : Int) < 24 := by omega
  have c2 : (0 : Int) ≤ (t : Int) := by omega
  have c3 : (t : Int) < (rcL.length : Int) := by rw [tk]; omega
  have c4 := dz t (by omega)
  refine Ev.step (f := fun k => (ab.f k (gY a t) f7 (rcV t)).bind fun u => aK.l0 k u f7 rcL ((t + 1 : Nat) : Int)) (fun k => ?_) ?_
  ·simp only [aK.l0]
   rw [Fa c1, Fa c2, Fa c3, c4, t9 t ht]
  ·exact Ev.bind (r7 _ (gz a t hl) (qB a ha t) _) hh
 ·refine Ev.step (f := fun _ => some (cE.v a)) (fun k => ?_) (Ev.now _)
  simp only [aK.l0]
  rw [Ga (by omega)]
  rfl
/-- The number of n bytes, the lowest first. -/
def pb (f : Nat → Int) : Nat → Int
 | 0 => 0
 | j + 1 => pb f j + f j * ((2 ^ (8 * j) : Nat) : Int)
theorem kV (f : Nat → Int) (hf : ∀ q, 0 ≤ f q ∧ f q ≤ 255) : ∀ n, 0 ≤ pb f n ∧ pb f n < ((2 ^ (8 * n) : Nat) : Int)
 | 0 => by simp [pb]
 | n + 1 => by
  have ih := kV f hf n
  have hn := hf n
  simp only [pb]
  have e : 2 ^ (8 * (n + 1)) = 256 * 2 ^ (8 * n) := by rw [Nat.mul_add, Nat.pow_add, Nat.mul_comm]
  rw [e]
  generalize 2 ^ (8 * n) = A at ih ⊢
  have h1 : f n * (A : Int) ≤ 255 * (A : Int) := Int.mul_le_mul_of_nonneg_right hn.2 (by omega)
  have h2 : 0 ≤ f n * (A : Int) := Int.mul_nonneg hn.1 (by omega)
  generalize f n * (A : Int) = z at h1 h2 ⊢
  omega
theorem gT (s : ByteArray) (i : Int) : 0 ≤ bt s i ∧ bt s i ≤ 255 := by have := dM s i; omega
/-- The bytes of lane i. -/
def lb (s : ByteArray) (i : Nat) (q : Nat) : Int := bt s ((8 * i + q : Nat) : Int)
def gp (s : ByteArray) (i : Nat) : Int := pb (lb s i) 8
theorem tb (s : ByteArray) (i : Nat) : W64 (gp s i) := by
 have h := kV (lb s i) (fun q => gT s _) 8
 exact ⟨h.1, h.2⟩
theorem sH (f : Nat → Int) (hf : ∀ q, 0 ≤ f q ∧ f q ≤ 255) (j : Nat) (hj : j < 8) : Go.bits .or .u64 (pb f j) (IntKind.u64.wrap (IntKind.u64.wrap (f j) * 2 ^ min (8 * j) 64)) = pb f (j + 1) := by
 have hb := hf j
 have h1 := kV f hf j
 have h9 := kV f hf (j + 1)
 have hA : 2 ^ (8 * j) ≤ 2 ^ 56 := Nat.pow_le_pow_right (by decide) (by omega)
 have hB : 2 ^ (8 * (j + 1)) ≤ 2 ^ 64 := Nat.pow_le_pow_right (by decide) (by omega)
 rw [Nat.min_eq_left (by omega), show (2 : Int) ^ (8 * j) = ((2 ^ (8 * j) : Nat) : Int) by rw [Int.natCast_pow]; rfl]
 simp only [pb] at h9 ⊢
 have hi : (2 : Int) ^ (8 * j) = ((2 ^ (8 * j) : Nat) : Int) := by rw [Int.natCast_pow]; rfl
 have e1 : IntKind.u64.wrap (f j) = f j := by rw [gr]; omega
 have h2 : 0 ≤ f j * ((2 ^ (8 * j) : Nat) : Int) := Int.mul_nonneg hb.1 (by omega)
 have h3 : f j * ((2 ^ (8 * j) : Nat) : Int) % ((2 ^ (8 * j) : Nat) : Int) = 0 := Int.mul_emod_left _ _
 rw [e1]
 have h4 : f j * ((2 ^ (8 * j) : Nat) : Int) < 18446744073709551616 := by
  generalize f j * ((2 ^ (8 * j) : Nat) : Int) = z at h2 h9 ⊢
  omega
 have e2 : IntKind.u64.wrap (f j * ((2 ^ (8 * j) : Nat) : Int)) = f j * ((2 ^ (8 * j) : Nat) : Int) := by
  rw [gr]
  generalize f j * ((2 ^ (8 * j) : Nat) : Int) = z at h2 h4 ⊢
  omega
 rw [e2]
 exact uu (8 * j) _ _ ⟨h1.1, by omega⟩ (by rw [hi]; exact h1.2) ⟨h2, h4⟩ (by rw [hi]; exact h3)
theorem kG (s : ByteArray) (i : Nat) (hi : i < 25) : ∀ m, m ≤ 200 → rd (gc s m) (i : Int) = pb (lb s i) (min 8 (m - 8 * i))
 | 0, _ => by
  rw [show min 8 (0 - 8 * i) = 0 by omega]
  exact gD 25 i
 | m + 1, h => by
  simp only [gc]
  rw [fU _ _ _ _ (by rw [eR]; omega), kG s i hi m (by omega)]
  by_cases e : i = m / 8
  ·rw [Fa e, ← e, kG s i hi m (by omega), show min 8 (m - 8 * i) = m % 8 by omega, show min 8 (m + 1 - 8 * i) = m % 8 + 1 by omega, ← sH (lb s i) (fun q => gT s _) (m % 8) (by omega)]
   unfold lb
   rw [show 8 * i + m % 8 = m by omega]
  ·rw [Ga e, show min 8 (m + 1 - 8 * i) = min 8 (m - 8 * i) by omega]
theorem jX (s : ByteArray) : dc.v s = (List.range 25).map (gp s) := by
 unfold dc.v
 apply jm (by rw [eR]; rfl)
 intro i hi
 rw [eR] at hi
 rw [kG s i hi 200 (Ca _), dw _ i (by simpa using hi), List.getElem_map, List.getElem_range, show min 8 (200 - 8 * i) = 8 by omega]
 rfl
/-- The same number, from its highest byte on. -/
def hv (f : Nat → Int) : Nat → Int
 | 0 => 0
 | n + 1 => hv f n * 256 + f (7 - n)
theorem tv (f : Nat → Int) (hf : ∀ q, 0 ≤ f q ∧ f q ≤ 255) : ∀ n, 0 ≤ hv f n ∧ hv f n < ((2 ^ (8 * n) : Nat) : Int)
 | 0 => by simp [hv]
 | n + 1 => by
  have ih := tv f hf n
  have hn := hf (7 - n)
  simp only [hv]
  have e : 2 ^ (8 * (n + 1)) = 256 * 2 ^ (8 * n) := by rw [Nat.mul_add, Nat.pow_add, Nat.mul_comm]
  rw [e]
  generalize 2 ^ (8 * n) = A at ih ⊢
  omega
theorem uG (f : Nat → Int) : hv f 8 = pb f 8 := by
 simp only [hv, pb]
 simp only [Nat.reduceSub, Nat.reduceMul, Nat.reducePow]
 omega
theorem oX (s : ByteArray) (n : Nat) (hs : s.size = 8 * n) (hn : n ≤ 1000) : Ev (fun k => aH.f k s) ((List.range n).map (gp s)) := by
 unfold aH.f
 refine Ev.up (g := fun i k => aH.l0 k s ((List.range i).map (gp s)) ((8 * i : Nat) : Int)) n ?_ ?_ 0 (Nat.zero_le _)
 ·intro i hi hh
  refine Ev.step (f := fun k => aH.l1 k s ((List.range i).map (gp s)) ((8 * i : Nat) : Int) 0 7) (fun k => ?_) ?_
  ·simp only [aH.l0]
   rw [Fa (by rw [w64 (by omega) (by omega)]; omega)]
  ·refine Ev.up (g := fun j k => aH.l1 k s ((List.range i).map (gp s)) ((8 * i : Nat) : Int) (hv (lb s i) j) (7 - (j : Int))) 8 ?_ ?_ 0 (Nat.zero_le _)
   ·intro j hj h2
    refine Ev.step (fun k => ?_) h2
    have e1 : wrap64 (((8 * i : Nat) : Int) + (7 - (j : Int))) = ((8 * i + (7 - j) : Nat) : Int) := by rw [w64 (by omega) (by omega)]; omega
    have e2 : wrap64 (7 - (j : Int) - 1) = 7 - ((j + 1 : Nat) : Int) := by rw [w64 (by omega) (by omega)]; omega
    have hA : 2 ^ (8 * j) ≤ 2 ^ 56 := Nat.pow_le_pow_right (by decide) (by omega)
    have h3 := tv (lb s i) (fun q => gT s _) j
    have h4 := gT s ((8 * i + (7 - j) : Nat) : Int)
    have c1 : 7 - (j : Int) ≥ 0 := by omega
    have c2 : (0 : Int) ≤ ((8 * i + (7 - j) : Nat) : Int) := by omega
    have c3 : ((8 * i + (7 - j) : Nat) : Int) < (s.size : Int) := by omega
    simp only [aH.l1, e1, e2]
    rw [Fa c1, Fa c2, Fa c3]
    congr 1
    simp only [hv]
    show _ = _ + bt s ((8 * i + (7 - j) : Nat) : Int)
    generalize hv (lb s i) j = z at h3 ⊢
    generalize bt s ((8 * i + (7 - j) : Nat) : Int) = b at h4 ⊢
    rw [gr, gr, gr]
    omega
   ·refine Ev.step (fun k => ?_) hh
    simp only [aH.l1]
    rw [Ga (by omega), Fa (by simp; omega), uG, w64 (by omega) (by omega), List.range_succ, List.map_append]
    rfl
 ·refine Ev.step (f := fun _ => some ((List.range n).map (gp s))) (fun k => ?_) (Ev.now _)
  simp only [aH.l0]
  rw [Ga (by rw [w64 (by omega) (by omega)]; omega)]
/-- The byte m of lanes. -/
def fF (xs : List Int) (m : Nat) : Int := rd xs ((m / 8 : Nat) : Int) / 2 ^ (8 * (m % 8)) % 256
theorem ke (xs : List Int) (i : Nat) : ∀ m, m ≤ 200 → rd (fT xs m) (i : Int) = if i < m then fF xs i else 0
 | 0, _ => by rw [Ga (by omega)]; exact gD 200 i
 | m + 1, h => by
  simp only [fT]
  rw [fU _ _ _ _ (by rw [du]; omega), ke xs i m (by omega)]
  by_cases e : i = m
  ·subst e
   rw [Fa rfl, Fa (by omega)]
   rfl
  ·rw [Ga e]
   by_cases e2 : i < m
   ·rw [Fa e2, Fa (by omega)]
   ·rw [Ga e2, Ga (by omega)]
theorem pg (xs : List Int) : fT xs 200 = (List.range 200).map (fF xs) := by
 apply jm (by rw [du]; simp)
 intro i hi
 rw [du] at hi
 rw [ke xs i 200 (Ca _), Fa hi, dw _ i (by simpa using hi), List.getElem_map, List.getElem_range]
theorem rL (xs : List Int) (hx : ∀ x ∈ xs, W64 x) (hl : xs.length ≤ 1000) : Ev (fun k => aG.f k xs) (strOfNums ((List.range (8 * xs.length)).map (fF xs))) := by
 unfold aG.f
 refine Ev.up (g := fun i k => aG.l0 k xs ((List.range (8 * i)).map (fF xs)) (i : Int)) xs.length ?_ ?_ 0 (Nat.zero_le _)
 ·intro i hi hh
  have hw := lT hx i hi
  refine Ev.step (f := fun k => aG.l1 k xs ((List.range (8 * i + 0)).map (fF xs)) (i : Int) (rd xs (i : Int) / 2 ^ (8 * 0)) ((0 : Nat) : Int)) (fun k => ?_) ?_
  ·simp only [aG.l0]
   rw [Fa (by omega), Fa (by omega), Nat.mul_zero, Int.pow_zero, Int.ediv_one]
   rfl
  ·refine Ev.up (g := fun j k => aG.l1 k xs ((List.range (8 * i + j)).map (fF xs)) (i : Int) (rd xs (i : Int) / 2 ^ (8 * j)) (j : Int)) 8 ?_ ?_ 0 (Nat.zero_le _)
   ·intro j hj h2
    refine Ev.step (fun k => ?_) h2
    have hA : (0 : Int) < 2 ^ (8 * j) := Int.pow_pos (by decide)
    have h3 : 0 ≤ rd xs (i : Int) / 2 ^ (8 * j) := Int.ediv_nonneg hw.1 (by omega)
    have h4 : rd xs (i : Int) / 2 ^ (8 * j) ≤ rd xs (i : Int) := Int.ediv_le_self _ hw.1
    have h5 := hw.2
    have e1 : rd xs (i : Int) / 2 ^ (8 * j) / 256 = rd xs (i : Int) / 2 ^ (8 * (j + 1)) := by
     rw [Int.ediv_ediv_of_nonneg (by omega), Nat.mul_add, Int.pow_add]; rfl
    have e3 : fF xs (8 * i + j) = rd xs (i : Int) / 2 ^ (8 * j) % 256 := by
     unfold fF
     rw [show (8 * i + j) / 8 = i by omega, show (8 * i + j) % 8 = j by omega]
    have e2 : (List.range (8 * i + (j + 1))).map (fF xs) = (List.range (8 * i + j)).map (fF xs) ++ [rd xs (i : Int) / 2 ^ (8 * j) % 256] := by
     rw [show 8 * i + (j + 1) = 8 * i + j + 1 from rfl, List.range_succ, List.map_append, List.map_singleton, e3]
    simp only [aG.l1]
    rw [Fa (by omega), Fa (by simp; omega), dz j (by omega), e2, ← e1]
    generalize rd xs (i : Int) / 2 ^ (8 * j) = z at h3 h4 ⊢
    rw [Int.tdiv_eq_ediv_of_nonneg h3, Int.tmod_eq_emod_of_nonneg h3, gr]
    congr 1
    ·congr 2; omega
    ·omega
   ·refine Ev.step (fun k => ?_) hh
    simp only [aG.l1]
    rw [Ga (by omega), dz i (by omega), show 8 * i + 8 = 8 * (i + 1) by omega]
 ·refine Ev.step (f := fun _ => some (strOfNums ((List.range (8 * xs.length)).map (fF xs)))) (fun k => ?_) (Ev.now _)
  simp only [aG.l0]
  rw [Ga (by omega)]
theorem qq (xs : List Int) (hx : ∀ x ∈ xs, W64 x) (hl : xs.length = 25) : Ev (fun k => aG.f k xs) (fM.v xs) := by
 have h := rL xs hx (by omega)
 rw [hl, ← pg] at h
 exact h
theorem m6 (s : ByteArray) : ∀ x ∈ dc.v s, W64 x := by
 rw [jX]
 intro x hx
 obtain ⟨i, _, rfl⟩ := List.mem_map.mp hx
 exact tb s i
theorem kZ (s : ByteArray) : (dc.v s).length = 25 := eR s 200
theorem mH (a : List Int) (ha : ∀ x ∈ a, W64 x) : ∀ x ∈ cE.v a, W64 x := qB a ha 24
theorem pU (s : ByteArray) (hs : s.size = 200) : Ev (fun k => cW.f k s) (fh s) := by
 unfold cW.f
 refine Ev.pos (by omega) ?_
 have h := oX s 25 (by omega) (by decide)
 rw [← jX] at h
 exact Ev.bind h (Ev.bind (qa _ (kZ s) (m6 s)) (Ev.bind (qq _ (mH _ (m6 s)) (gz _ 24 (kZ s))) (Ev.now _)))
def B8 (x : Int) : Prop := 0 ≤ x ∧ x ≤ 255
theorem B8.xor (a b : Int) : B8 (Go.bits .xor .u8 a b) := by
 show B8 (IntKind.u8.wrap (((BitVec.ofInt 8 a ^^^ BitVec.ofInt 8 b).toNat : Nat) : Int))
 rw [IntKind.wrap_u8]; unfold B8; omega
theorem uJ (a b : Nat) (ha : a < 256) (hb : b < 256) : Go.bits .xor .u8 (a : Int) (b : Int) = ((a ^^^ b : Nat) : Int) := by
 show IntKind.u8.wrap (((BitVec.ofInt 8 (a : Int) ^^^ BitVec.ofInt 8 (b : Int)).toNat : Nat) : Int) = _
 have e1 : (BitVec.ofInt 8 (a : Int) ^^^ BitVec.ofInt 8 (b : Int)).toNat = a ^^^ b := by
  rw [BitVec.toNat_xor, BitVec.toNat_ofInt, BitVec.toNat_ofInt]
  congr 1 <;> omega
 rw [e1]
 have : a ^^^ b < 2 ^ 8 := Nat.xor_lt_two_pow ha hb
 rw [IntKind.wrap_u8]
 omega
/-- Numbers of two parts, turned part by part. -/
theorem qP (k a b c d : Nat) (ha : a < 2 ^ k) (hc : c < 2 ^ k) : (a + b * 2 ^ k) ^^^ (c + d * 2 ^ k) = (a ^^^ c) + (b ^^^ d) * 2 ^ k := by
 have hp : 0 < 2 ^ k := Nat.pow_pos (by decide)
 have e1 : (a + b * 2 ^ k) % 2 ^ k = a := by rw [Nat.add_mul_mod_self_right, Nat.mod_eq_of_lt ha]
 have e2 : (c + d * 2 ^ k) % 2 ^ k = c := by rw [Nat.add_mul_mod_self_right, Nat.mod_eq_of_lt hc]
 have e3 : (a + b * 2 ^ k) / 2 ^ k = b := by rw [Nat.add_mul_div_right _ _ hp, Nat.div_eq_of_lt ha, Nat.zero_add]
 have e4 : (c + d * 2 ^ k) / 2 ^ k = d := by rw [Nat.add_mul_div_right _ _ hp, Nat.div_eq_of_lt hc, Nat.zero_add]
 have h := Nat.mod_add_div ((a + b * 2 ^ k) ^^^ (c + d * 2 ^ k)) (2 ^ k)
 rw [Nat.xor_mod_two_pow, Nat.xor_div_two_pow, e1, e2, e3, e4, Nat.mul_comm (2 ^ k)] at h
 exact h.symm
theorem rN (f g : Nat → Int) (hf : ∀ q, 0 ≤ f q ∧ f q ≤ 255) (hg : ∀ q, 0 ≤ g q ∧ g q ≤ 255) : ∀ n, n ≤ 8 → pb (fun q => Go.bits .xor .u8 (f q) (g q)) n = Go.bits .xor .u64 (pb f n) (pb g n)
 | 0, _ => by
  simp only [pb]
  exact (o4 0 ⟨by decide, by decide⟩).symm
 | n + 1, h => by
  have ih := rN f g hf hg n (by omega)
  have a1 := kV f hf n
  have a2 := kV g hg n
  have b1 := kV f hf (n + 1)
  have b2 := kV g hg (n + 1)
  have c1 := hf n
  have c2 := hg n
  have hB : 2 ^ (8 * (n + 1)) ≤ 2 ^ 64 := Nat.pow_le_pow_right (by decide) (by omega)
  have hC : 2 ^ (8 * n) ≤ 2 ^ 64 := Nat.pow_le_pow_right (by decide) (by omega)
  simp only [pb] at b1 b2 ⊢
  rw [ih]
  clear ih
  obtain ⟨a, ea⟩ := Int.eq_ofNat_of_zero_le a1.1
  obtain ⟨c, ec⟩ := Int.eq_ofNat_of_zero_le a2.1
  obtain ⟨b, eb⟩ := Int.eq_ofNat_of_zero_le c1.1
  obtain ⟨d, ed⟩ := Int.eq_ofNat_of_zero_le c2.1
  rw [ea, eb] at b1 ⊢
  rw [ec, ed] at b2 ⊢
  rw [ea] at a1
  rw [ec] at a2
  rw [eb] at c1
  rw [ed] at c2
  rw [sc a c (by omega) (by omega), uJ b d (by omega) (by omega), ← Int.natCast_mul, ← Int.natCast_mul, ← Int.natCast_mul, ← Int.natCast_add, ← Int.natCast_add, ← Int.natCast_add, sc _ _ ?_ ?_]
  ·rw [qP (8 * n) a b c d (by omega) (by omega)]
  ·have := b1.2
   rw [← Int.natCast_mul, ← Int.natCast_add] at this
   omega
  ·have := b2.2
   rw [← Int.natCast_mul, ← Int.natCast_add] at this
   omega
theorem kc {f g : Nat → Int} : ∀ n, (∀ q, q < n → f q = g q) → pb f n = pb g n
 | 0, _ => rfl
 | n + 1, h => by
  simp only [pb]
  rw [kc n (fun q hq => h q (by omega)), h n (by omega)]
theorem na (x : Nat) : ∀ n, pb (fun q => (x : Int) / 2 ^ (8 * q) % 256) n = ((x % 2 ^ (8 * n) : Nat) : Int)
 | 0 => by simp [pb, Nat.mod_one]
 | n + 1 => by
  simp only [pb]
  rw [na x n, show (2 : Int) ^ (8 * n) = ((2 ^ (8 * n) : Nat) : Int) by rw [Int.natCast_pow]; rfl, ← Int.natCast_ediv, Nat.mul_add, Nat.pow_add, show 2 ^ (8 * 1) = 256 from rfl, Nat.mod_mul]
  rw [Nat.mul_comm (2 ^ (8 * n)) (x / 2 ^ (8 * n) % 256), Int.natCast_add, Int.natCast_mul]
  rfl
/-- A lane, of its own bytes. -/
theorem oP (W : List Int) (i : Nat) (h : W64 (rd W (i : Int))) : pb (fun q => fF W (8 * i + q)) 8 = rd W (i : Int) := by
 obtain ⟨x, hx⟩ := Int.eq_ofNat_of_zero_le h.1
 have h2 := h.2
 rw [hx] at h2
 rw [kc (g := fun q => (x : Int) / 2 ^ (8 * q) % 256) 8 ?_, na, hx, Nat.mod_eq_of_lt (by omega)]
 intro q hq
 unfold fF
 rw [show (8 * i + q) / 8 = i by omega, show (8 * i + q) % 8 = q by omega, hx]
theorem o6 (W : List Int) (m : Nat) : B8 (fF W m) := by unfold fF B8; omega
theorem rO (L : List Int) (hL : ∀ x ∈ L, B8 x) (j : Nat) (hj : j < L.length) : bt (strOfNums L) (j : Int) = rd L (j : Int) := by
 have h := lT hL j hj
 rw [dw L j hj] at h ⊢
 have hs : j < (strOfNums L).size := by rw [strOfNums_size]; exact hj
 rw [← cQ (strOfNums L) (j : Int) (by simpa using hs)]
 simp only [Int.toNat_natCast]
 rw [jF L j hs, UInt8.toNat_ofNat']
 unfold B8 at h
 omega
theorem r9 (L : List Int) (hL : ∀ x ∈ L, B8 x) : bl (strOfNums L) = L := by
 apply jm (by rw [dU, strOfNums_size])
 intro i hi
 rw [dU, strOfNums_size] at hi
 rw [← rO L hL i hi, dw _ i (by rw [dU, strOfNums_size]; exact hi)]
 have hs : i < (strOfNums L).size := by rw [strOfNums_size]; exact hi
 rw [← cQ (strOfNums L) (i : Int) (by simpa using hs)]
 simp [bl]
 rfl
theorem oJ (W : List Int) : ∀ x ∈ fT W 200, B8 x := by
 rw [pg]
 intro x hx
 obtain ⟨m, _, rfl⟩ := List.mem_map.mp hx
 exact o6 W m
theorem lQ (st T : List Int) (o i : Nat) : ∀ n, n ≤ st.length → rd (ii st T o n) (i : Int) = if i < n then Go.bits .xor .u8 (rd st (i : Int)) (rd T ((o + i : Nat) : Int)) else rd st (i : Int)
 | 0, _ => by rw [Ga (by omega)]; rfl
 | n + 1, h => by
  simp only [ii]
  rw [fU _ _ _ _ (by rw [j9]; omega), lQ st T o i n (by omega)]
  by_cases e : i = n
  ·subst e
   rw [Fa rfl, Fa (by omega), lQ st T o i i (by omega), Ga (by omega)]
  ·rw [Ga e]
   by_cases e2 : i < n
   ·rw [Fa e2, Fa (by omega)]
   ·rw [Ga e2, Ga (by omega)]
theorem nX (st ls : List Int) (i : Nat) : ∀ n, n ≤ st.length → rd (hZ st ls n) (i : Int) = if i < n then Go.bits .xor .u64 (rd st (i : Int)) (rd ls (i : Int)) else rd st (i : Int)
 | 0, _ => by rw [Ga (by omega)]; rfl
 | n + 1, h => by
  simp only [hZ]
  rw [fU _ _ _ _ (by rw [jc]; omega), nX st ls i n (by omega)]
  by_cases e : i = n
  ·subst e
   rw [Fa rfl, Fa (by omega), nX st ls i i (by omega), Ga (by omega)]
  ·rw [Ga e]
   by_cases e2 : i < n
   ·rw [Fa e2, Fa (by omega)]
   ·rw [Ga e2, Ga (by omega)]
theorem nQ (T : List Int) (o n i : Nat) (hi : i < n) (h : o + n ≤ T.length) : rd ((T.drop o).take n) (i : Int) = rd T ((o + i : Nat) : Int) := by
 rw [dw _ i (by simp; omega), dw _ (o + i) (by omega)]
 simp
theorem ru (T : List Int) (hT : ∀ x ∈ T, B8 x) (n : Nat) : ∀ x ∈ (T.drop (168 * n)).take 168, B8 x := fun x hx => hT x (List.mem_of_mem_drop (List.mem_of_mem_take hx))
/-- A state turned by a block: byte by byte or lane by lane. -/
theorem o3 (W T : List Int) (m : Nat) (hl : W.length = 25) (hw : ∀ x ∈ W, W64 x) (hT : ∀ x ∈ T, B8 x) (hm : 168 * m + 168 ≤ T.length) :
  dc.v (strOfNums (ii (fT W 200) T (168 * m) 168)) = hZ W ((List.range 21).map (gp (ff T m))) 21 := by
 have hY : ∀ x ∈ ii (fT W 200) T (168 * m) 168, B8 x := by
  refine oq fun i hi => ?_
  rw [j9, du] at hi
  rw [lQ _ _ _ _ 168 (by rw [du]; decide)]
  split
  ·exact B8.xor _ _
  ·exact lT (oJ W) i (by rw [du]; exact hi)
 have hYl : (ii (fT W 200) T (168 * m) 168).length = 200 := by rw [j9, du]
 have hbyte : ∀ j : Nat, j < 200 → bt (strOfNums (ii (fT W 200) T (168 * m) 168)) (j : Int) = if j < 168 then Go.bits .xor .u8 (fF W j) (rd T ((168 * m + j : Nat) : Int)) else fF W j := by
  intro j hj
  rw [rO _ hY j (by rw [hYl]; exact hj), lQ _ _ _ _ 168 (by rw [du]; decide), ke W j 200 (Ca _), Fa hj]
 have hblk : ∀ j : Nat, j < 168 → bt (ff T m) (j : Int) = rd T ((168 * m + j : Nat) : Int) := by
  intro j hj
  unfold ff
  rw [rO _ (ru T hT m) j (by simp; omega), nQ T _ 168 j hj (by omega)]
 rw [jX]
 apply jm (by rw [jc, hl]; rfl)
 intro i hi
 have hi : i < 25 := by simpa using hi
 rw [nX _ _ _ 21 (by rw [hl]; decide), dw ((List.range 25).map _) i (by simpa using hi), List.getElem_map, List.getElem_range]
 have hwi := lT hw i (by rw [hl]; exact hi)
 by_cases h : i < 21
 ·rw [Fa h, dw ((List.range 21).map (gp (ff T m))) i (by simpa using h), List.getElem_map, List.getElem_range]
  unfold gp
  rw [kc (g := fun q => Go.bits .xor .u8 (fF W (8 * i + q)) (lb (ff T m) i q)) 8 ?_, rN (fun q => fF W (8 * i + q)) (lb (ff T m) i) (fun q => o6 W _) (fun q => gT _ _) 8 (Ca _), oP W i hwi]
  intro q hq
  unfold lb
  rw [hbyte _ (by omega), Fa (by omega), hblk _ (by omega)]
 ·unfold gp
  rw [Ga h, kc (g := fun q => fF W (8 * i + q)) 8 ?_, oP W i hwi]
  intro q hq
  unfold lb
  rw [hbyte _ (by omega), Ga (by omega)]
/-- The lanes behind m blocks. -/
def stW (T : List Int) : Nat → List Int
 | 0 => List.replicate 25 0
 | m + 1 => cE.v (hZ (stW T m) ((List.range 21).map (gp (ff T m))) 21)
theorem pJ (st ls : List Int) (h : ∀ x ∈ st, W64 x) : ∀ n, ∀ x ∈ hZ st ls n, W64 x
 | 0 => h
 | n + 1 => by
  intro x hx
  simp only [hZ] at hx
  rcases List.mem_or_eq_of_mem_set hx with h2 | h2
  ·exact pJ st ls h n x h2
  ·rw [h2]; exact W64.xor _ _
theorem jV (T : List Int) : ∀ m, (stW T m).length = 25 ∧ ∀ x ∈ stW T m, W64 x
 | 0 => ⟨by simp [stW], by
  intro x hx
  simp only [stW] at hx
  rw [List.eq_of_mem_replicate hx]
  exact ⟨by decide, by decide⟩⟩
 | m + 1 => by
  have ih := jV T m
  have h1 : (hZ (stW T m) ((List.range 21).map (gp (ff T m))) 21).length = 25 := by rw [jc]; exact ih.1
  have h2 := pJ (stW T m) ((List.range 21).map (gp (ff T m))) ih.2 21
  simp only [stW]
  generalize hZ (stW T m) ((List.range 21).map (gp (ff T m))) 21 = a at h1 h2 ⊢
  exact ⟨gz a 24 h1, mH a h2⟩
theorem qz (T : List Int) (hT : ∀ x ∈ T, B8 x) : ∀ m, 168 * m ≤ T.length → gO T m = fT (stW T m) 200
 | 0, _ => by
  simp only [gO, stW]
  apply jm (by rw [du, List.length_replicate])
  intro i hi
  rw [List.length_replicate] at hi
  rw [gD, ke _ i 200 (Ca _), Fa hi]
  unfold fF
  rw [gD]
  simp
 | m + 1, h => by
  simp only [gO, fh]
  rw [qz T hT m (by omega), o3 _ T m (jV T m).1 (jV T m).2 hT (by omega)]
  unfold fM.v
  rw [r9 _ (oJ _)]
  rfl
theorem qy (T : List Int) (hT : ∀ x ∈ T, B8 x) : ∀ m, 168 * m ≤ T.length → Ev (fun k => lv k T m) (stW T m)
 | 0, _ => Ev.now _
 | m + 1, h => by
  have hs : (ff T m).size = 8 * 21 := by
   unfold ff
   rw [strOfNums_size]
   simp
   omega
  have h1 := jV T m
  have h2 := jV T (m + 1)
  have hl : ((List.range 21).map (gp (ff T m))).length = 21 := by simp
  refine Ev.bind (qy T hT m (by omega)) (Ev.bind (oX (ff T m) 21 hs (by decide)) (Ev.pos ?_ ?_))
  ·rw [hl, h1.1]; decide
  ·rw [hl]
   have h3 := qa (hZ (stW T m) ((List.range 21).map (gp (ff T m))) 21) (by rw [jc]; exact h1.1) (pJ _ _ h1.2 21)
   simp only [stW] at h2 ⊢
   refine Ev.bind h3 (Ev.pos ?_ (Ev.now _))
   rw [h2.1]; decide
theorem sE (s : ByteArray) (c : Int) (hc : B8 c) : ∀ x ∈ hD s c, B8 x := by
 intro x hx
 unfold hD qd at hx
 rcases List.mem_or_eq_of_mem_set hx with h | h
 ·unfold fD at h
  rw [List.mem_append, List.mem_append] at h
  rcases h with (h | h) | h
  ·unfold bl at h
   obtain ⟨b, _, rfl⟩ := List.mem_map.mp h
   have := b.toNat_lt
   exact ⟨by omega, by omega⟩
  ·rw [List.mem_singleton] at h; rw [h]; exact hc
  ·rw [List.eq_of_mem_replicate h]; exact ⟨by decide, by decide⟩
 ·rw [h]; exact B8.xor _ _
/-- The state that a text leaves. -/
def mI (s : ByteArray) : ByteArray := strOfNums (gO (hD s 31) ((hD s 31).length / 168))
theorem ic (s : ByteArray) : (mI s).size = 200 := by unfold mI; rw [strOfNums_size, im]
theorem l9 (s : ByteArray) (hs : s.size ≤ 1000000000000) : Ev (fun k => cJ.f k s 168 31) (mI s) := by
 have hT := sE s 31 ⟨by decide, by decide⟩
 have hm : 168 * ((hD s 31).length / 168) ≤ (hD s 31).length := Nat.mul_div_le _ _
 unfold cJ.f
 refine Ev.pos ⟨rfl, hs⟩ (Ev.bind (qy _ hT _ hm) ?_)
 unfold mI
 rw [qz _ hT _ hm]
 exact qq _ (jV _ _).2 (jV _ _).1
theorem ms (s : ByteArray) (hs : s.size ≤ 1000000000000) : Ev (fun k => db.f k s 168 31) (mI s) := by
 unfold db.f
 exact Ev.pos ⟨rfl, hs⟩ (Ev.now _)
theorem jt (s : ByteArray) : (⟨#[]⟩ : ByteArray) ++ s = s := by
 apply eM
 simp [ByteArray.data_append]
theorem ik (s : ByteArray) (a n : Nat) (h : a + n ≤ s.size) : (s.extract a (a + n)).size = n := by
 rw [ByteArray.size_extract]; omega
theorem j4 (s : ByteArray) (a n : Nat) (hs : s.size = 200) (hn : 0 < n) (h : a + n ≤ 168) : Ev (fun k => aw.f k s (a : Int) (n : Int)) (s, ((a + n : Nat) : Int), s.extract a (a + n)) := by
 unfold aw.f
 refine Ev.pos ⟨by omega, by omega, hs, by omega, by omega⟩ ?_
 rw [Int.toNat_natCast, Int.toNat_natCast]
 have hx := ik s a n (by omega)
 refine Ev.step (f := fun k => aw.l0 k n (s.extract a (a + n)) s (a + n)) (fun k => ?_) ?_
 ·simp only [aw.l0]
  have e0 : (⟨#[]⟩ : ByteArray).size = 0 := rfl
  rw [Fa (by rw [e0]; exact hn), Ga (by omega), Fa ⟨by omega, hs⟩, e0, Nat.sub_zero, Nat.min_eq_right (by omega), jt]
 ·refine Ev.step (f := fun _ => some (s, ((a + n : Nat) : Int), s.extract a (a + n))) (fun k => ?_) (Ev.now _)
  simp only [aw.l0]
  rw [Ga (by omega)]
theorem mN (s : ByteArray) (n : Nat) (hs : s.size = 200) (hn : 0 < n) (h : n ≤ 168) : Ev (fun k => aw.f k s 168 (n : Int)) (fh s, (n : Int), (fh s).extract 0 n) := by
 unfold aw.f
 refine Ev.pos ⟨by omega, by omega, hs, by omega, by omega⟩ ?_
 rw [Int.toNat_natCast]
 have hp := gH s
 have hx := ik (fh s) 0 n (by omega)
 rw [Nat.zero_add] at hx
 refine Ev.step (f := fun k => (cW.f k s).bind fun t => if t.size = 200 then aw.l0 k n (t.extract 0 n) t n else none) (fun k => ?_) (Ev.bind (pU s hs) (Ev.pos hp ?_))
 ·simp only [aw.l0]
  have e0 : (⟨#[]⟩ : ByteArray).size = 0 := rfl
  rw [Fa (by rw [e0]; exact hn), Fa (by decide), e0, Nat.sub_zero, Nat.min_eq_right (by omega)]
  simp only [jt]
 ·refine Ev.step (f := fun _ => some (fh s, (n : Int), (fh s).extract 0 n)) (fun k => ?_) (Ev.now _)
  simp only [aw.l0]
  rw [Ga (by omega)]
theorem jh (s : ByteArray) (a n : Nat) (r : ByteArray × Int × ByteArray) (hs : s.size = 200) (hn : n ≤ 168) (ha : a ≤ 168) (h : Ev (fun k => al.l0 k (n : Int) (⟨#[]⟩ : ByteArray) s (a : Int)) r) : Ev (fun k => al.f k s (a : Int) (n : Int)) r := by
 unfold al.f
 have e1 : b7.f (n : Int) 0 4000 = some true := (lM _ _ _).trans (by rw [ya]; omega)
 have e2 : b7.f (a : Int) 0 168 = some true := (lM _ _ _).trans (by rw [ya]; omega)
 refine Ev.then e1 (Ev.pos rfl (Ev.pos (by omega) (Ev.then e2 ?_)))
 refine Ev.step (fun k => ?_) h
 simp only [al.j0]
 rw [Ga (by decide)]
theorem iB (s : ByteArray) (a n : Nat) (hs : s.size = 200) (hn : 0 < n) (h : a + n ≤ 168) : Ev (fun k => al.f k s (a : Int) (n : Int)) (s, ((a + n : Nat) : Int), s.extract a (a + n)) := by
 refine jh s a n _ hs (by omega) (by omega) ?_
 have hx := ik s a n (by omega)
 have e0 : (⟨#[]⟩ : ByteArray).size = 0 := rfl
 have e1 : wrap64 ((n : Int) - ((⟨#[]⟩ : ByteArray).size : Int)) = (n : Int) := by rw [e0, w64 (by omega) (by omega)]; omega
 have e2 : wrap64 (168 - (a : Int)) = ((168 - a : Nat) : Int) := by rw [w64 (by omega) (by omega)]; omega
 have e3 : mn (n : Int) ((168 - a : Nat) : Int) = (n : Int) := by unfold mn; rw [Ga (by omega)]
 have e4 : wrap64 ((a : Int) + (n : Int)) = ((a + n : Nat) : Int) := by rw [w64 (by omega) (by omega)]; omega
 refine Ev.step (f := fun k => al.l0 k (n : Int) (s.extract a (a + n)) s ((a + n : Nat) : Int)) (fun k => ?_) ?_
 ·simp only [al.l0, e1, e2, e3, e4]
  rw [Fa (by rw [e0]; omega), Ga (by omega), Fa (by omega), Fa (by omega), Fa (by omega), Int.toNat_natCast, Int.toNat_natCast, Fa (by rw [e0, hx]; omega), jt]
 ·refine Ev.step (f := fun _ => some (s, ((a + n : Nat) : Int), s.extract a (a + n))) (fun k => ?_) (Ev.now _)
  simp only [al.l0]
  rw [Ga (by omega)]
theorem mX (s : ByteArray) (n : Nat) (hs : s.size = 200) (hn : 0 < n) (h : n ≤ 168) : Ev (fun k => al.f k s 168 (n : Int)) (fh s, (n : Int), (fh s).extract 0 n) := by
 refine jh s 168 n _ hs (by omega) (by omega) ?_
 have hp := gH s
 have hx := ik (fh s) 0 n (by omega)
 rw [Nat.zero_add] at hx
 have e0 : (⟨#[]⟩ : ByteArray).size = 0 := rfl
 have e1 : wrap64 ((n : Int) - ((⟨#[]⟩ : ByteArray).size : Int)) = (n : Int) := by rw [e0, w64 (by omega) (by omega)]; omega
 have e3 : mn (n : Int) 168 = (n : Int) := by unfold mn; rw [Ga (by omega)]
 have e4 : wrap64 (0 + (n : Int)) = (n : Int) := by rw [w64 (by omega) (by omega)]; omega
 refine Ev.step (f := fun k => al.l0 k (n : Int) ((fh s).extract 0 n) (fh s) (n : Int)) (fun k => ?_) ?_
 ·simp only [al.l0, e1, e3, e4, qx s hs, Option.bind_some]
  rw [Fa (by rw [e0]; omega), Fa (by rfl), Fa (by omega), Fa (by omega), Int.toNat_natCast, Fa (by rw [e0, hx]; omega), jt]
 ·refine Ev.step (f := fun _ => some (fh s, (n : Int), (fh s).extract 0 n)) (fun k => ?_) (Ev.now _)
  simp only [al.l0]
  rw [Ga (by omega)]
theorem lh (s : ByteArray) (hs : s.size ≤ 1000000000000) : Ev (fun k => cf.f k s) (mI s, 0) := by
 unfold cf.f
 exact Ev.bind (l9 s hs) (Ev.now _)
theorem lg (s : ByteArray) (hs : s.size ≤ 1000000000000) : Ev (fun k => cg.f k s) (mI s, 0) := by
 unfold cg.f
 exact Ev.bind (ms s hs) (Ev.now _)
/-- The first n bytes that a text gives. -/
def mG (s : ByteArray) (n : Nat) : ByteArray := (mI s).extract 0 n
theorem mO (s : ByteArray) (hs : s.size ≤ 1000000000000) : Ev (fun k => cU.f k s 128) (mG s 128, true) := by
 unfold cU.f
 have h := j4 (mI s) 0 128 (ic s) (by decide) (by decide)
 have e1 : aX.f 128 0 4000 = some true := by rfl
 exact Ev.then e1 (Ev.pos rfl (Ev.bind (lh s hs) (Ev.bind h (Ev.now _))))
theorem mQ (s : ByteArray) (hs : s.size ≤ 1000000000000) : Ev (fun k => cV.f k s 128) (mG s 128, true) := by
 unfold cV.f
 have h := iB (mI s) 0 128 (ic s) (by decide) (by decide)
 have e1 : b7.f 128 0 4000 = some true := by rfl
 exact Ev.then e1 (Ev.pos rfl (Ev.bind (lg s hs) (Ev.bind h (Ev.now _))))
def kn (n : Int) : ByteArray := strOfNums [n % 256]
theorem gA (n : Int) : (kn n).size = 1 := by simp [kn, strOfNums_size]
theorem kF (n : Int) : cP.f n = some (kn n) := rfl
theorem kI (n : Int) : cG.f n = some (kn n) := by
 have h := Int.mul_tdiv_add_tmod n 256
 have h1 := Int.tmod_lt_of_pos n (show (0 : Int) < 256 by decide)
 have h2 := Int.lt_tmod_of_pos n (show (0 : Int) < 256 by decide)
 have h3 : (Int.tmod n 256) % 256 = n % 256 := by omega
 unfold cG.f kn
 split
 ·rw [w64 (by omega) (by omega), show (Int.tmod n 256 + 256) % 256 = n % 256 by omega]
 ·rw [h3]
/-- A coefficient of four bits. -/
def cb (v : Int) : Int := (v % 2 + v / 2 % 2 - v / 4 % 2 - v / 8 % 2 + 3329) % 3329
theorem uD (b : Int) (h0 : 0 ≤ b) (h1 : b ≤ 255) : Int.tmod (wrap64 ((wrap64 ((wrap64 ((wrap64 ((Int.tmod (wrap64 (Int.tdiv (wrap64 b) 16)) 2) + (Int.tmod (wrap64 (Int.tdiv (wrap64 (Int.tdiv (wrap64 b) 16)) 2)) 2))) - (Int.tmod (wrap64 (Int.tdiv (wrap64 (Int.tdiv (wrap64 b) 16)) 4)) 2))) - (Int.tmod (wrap64 (Int.tdiv (wrap64 (Int.tdiv (wrap64 b) 16)) 8)) 2))) + 3329)) 3329 = cb (b / 16) := by
 have h : ((List.range 256).all fun n : Nat => decide (Int.tmod (wrap64 ((wrap64 ((wrap64 ((wrap64 ((Int.tmod (wrap64 (Int.tdiv (wrap64 (n : Int)) 16)) 2) + (Int.tmod (wrap64 (Int.tdiv (wrap64 (Int.tdiv (wrap64 (n : Int)) 16)) 2)) 2))) - (Int.tmod (wrap64 (Int.tdiv (wrap64 (Int.tdiv (wrap64 (n : Int)) 16)) 4)) 2))) - (Int.tmod (wrap64 (Int.tdiv (wrap64 (Int.tdiv (wrap64 (n : Int)) 16)) 8)) 2))) + 3329)) 3329 = cb ((n : Int) / 16))) = true := by kernel_rfl
 obtain ⟨n, rfl⟩ := Int.eq_ofNat_of_zero_le h0
 exact of_decide_eq_true (List.all_eq_true.mp h n (List.mem_range.mpr (by omega)))
theorem uz (b : Int) (h0 : 0 ≤ b) (h1 : b ≤ 255) : Int.tmod (wrap64 ((wrap64 ((wrap64 ((wrap64 ((Int.tmod (wrap64 b) 2) + (Int.tmod (wrap64 (Int.tdiv (wrap64 b) 2)) 2))) - (Int.tmod (wrap64 (Int.tdiv (wrap64 b) 4)) 2))) - (Int.tmod (wrap64 (Int.tdiv (wrap64 b) 8)) 2))) + 3329)) 3329 = cb b := by
 have h : ((List.range 256).all fun n : Nat => decide (Int.tmod (wrap64 ((wrap64 ((wrap64 ((wrap64 ((Int.tmod (wrap64 (n : Int)) 2) + (Int.tmod (wrap64 (Int.tdiv (wrap64 (n : Int)) 2)) 2))) - (Int.tmod (wrap64 (Int.tdiv (wrap64 (n : Int)) 4)) 2))) - (Int.tmod (wrap64 (Int.tdiv (wrap64 (n : Int)) 8)) 2))) + 3329)) 3329 = cb (n : Int))) = true := by kernel_rfl
 obtain ⟨n, rfl⟩ := Int.eq_ofNat_of_zero_le h0
 exact of_decide_eq_true (List.all_eq_true.mp h n (List.mem_range.mpr (by omega)))
theorem sK (b : Int) (m : Nat) (h0 : 0 ≤ b) (h1 : b ≤ 255) (hm : m < 2) : cd.f (wrap64 ((wrap64 ((wrap64 ((Go.bits .and .i64 (wrap64 (shr .u8 b (wrap64 (4 * (m : Int))))) 1) + (Go.bits .and .i64 ((wrap64 (shr .u8 b (wrap64 (4 * (m : Int))))) / 2) 1))) - (Go.bits .and .i64 ((wrap64 (shr .u8 b (wrap64 (4 * (m : Int))))) / 4) 1))) - (Go.bits .and .i64 ((wrap64 (shr .u8 b (wrap64 (4 * (m : Int))))) / 8) 1))) = some (cb (if m = 1 then b / 16 else b)) := by
 have h : ((List.range 256).all fun n : Nat => (List.range 2).all fun m : Nat => decide (cd.f (wrap64 ((wrap64 ((wrap64 ((Go.bits .and .i64 (wrap64 (shr .u8 (n : Int) (wrap64 (4 * (m : Int))))) 1) + (Go.bits .and .i64 ((wrap64 (shr .u8 (n : Int) (wrap64 (4 * (m : Int))))) / 2) 1))) - (Go.bits .and .i64 ((wrap64 (shr .u8 (n : Int) (wrap64 (4 * (m : Int))))) / 4) 1))) - (Go.bits .and .i64 ((wrap64 (shr .u8 (n : Int) (wrap64 (4 * (m : Int))))) / 8) 1))) = some (cb (if m = 1 then (n : Int) / 16 else (n : Int))))) = true := by kernel_rfl
 obtain ⟨n, rfl⟩ := Int.eq_ofNat_of_zero_le h0
 exact of_decide_eq_true (List.all_eq_true.mp (List.all_eq_true.mp h n (List.mem_range.mpr (by omega))) m (List.mem_range.mpr hm))
/-- The coefficient i of the bytes t. -/
def sY (t : ByteArray) (i : Nat) : Int := cb (if i % 2 = 1 then bt t ((i / 2 : Nat) : Int) / 16 else bt t ((i / 2 : Nat) : Int))
def d5 (t : ByteArray) : List Int := (List.range 256).map (sY t)
theorem jU (t : ByteArray) : (d5 t).length = 256 := by unfold d5; simp
theorem mt (t : ByteArray) (i : Nat) (h : i < (d5 t).length) : (d5 t)[i] = sY t i := by
 simp only [d5, List.getElem_map, List.getElem_range]
theorem lE (t : ByteArray) (ht : t.size = 128) : Ev (fun k => bP.l0 k ([] : List Int) t 0) (d5 t) := by
 have hl := jU t
 refine Ev.up (g := fun i k => bP.l0 k ((d5 t).take i) t (i : Int)) 256 ?_ ?_ 0 (Nat.zero_le _)
 ·intro i hi hh
  have hv := mt t i (by omega)
  rw [← fY (d5 t) i (by omega), hv] at hh
  refine Ev.step (fun k => ?_) hh
  have e1 : wrap64 (Int.tdiv (i : Int) 2) = ((i / 2 : Nat) : Int) := by rw [Int.tdiv_eq_ediv_of_nonneg (by omega), w64 (by omega) (by omega)]; omega
  have hb := dM t ((i / 2 : Nat) : Int)
  have hlen : ((d5 t).take i).length = i := by rw [List.length_take, hl]; omega
  have e2 : Int.tmod (i : Int) 2 = ((i % 2 : Nat) : Int) := by rw [Int.tmod_eq_emod_of_nonneg (by omega)]; omega
  unfold sY
  simp only [bP.l0, e1, e2]
  rw [Fa (by omega), Fa (by omega), Fa (by omega)]
  by_cases hp : i % 2 = 1
  ·rw [Fa (by omega), Fa hp, Fa (by omega), uD _ (by omega) (by omega), dz i (by omega)]
  ·rw [Ga (by omega), Ga hp, Fa (by omega), uz _ (by omega) (by omega), dz i (by omega)]
 ·refine Ev.step (f := fun _ => some (d5 t)) (fun k => ?_) (Ev.now _)
  simp only [bP.l0]
  rw [Ga (by omega), List.take_of_length_le (by omega)]
theorem lA (t : ByteArray) (ht : t.size = 128) : Ev (fun k => bN.l0 k t (List.replicate 256 0) 256 0) (d5 t) := by
 have hl := jU t
 have e0 : (d5 t).take 0 ++ List.replicate ((d5 t).length - 0) 0 = List.replicate 256 0 := by rw [hl, List.take_zero, List.nil_append, Nat.sub_zero]
 rw [← e0]
 refine Ev.up (g := fun i k => bN.l0 k t ((d5 t).take i ++ List.replicate ((d5 t).length - i) 0) 256 (i : Int)) 256 ?_ ?_ 0 (Nat.zero_le _)
 ·intro i hi hh
  have hv := mt t i (by omega)
  rw [← oQ (d5 t) 0 i (by omega), hv] at hh
  refine Ev.step (fun k => ?_) hh
  have e1 : wrap64 (Int.tdiv (i : Int) 2) = ((i / 2 : Nat) : Int) := by rw [Int.tdiv_eq_ediv_of_nonneg (by omega), w64 (by omega) (by omega)]; omega
  have hb := dM t ((i / 2 : Nat) : Int)
  have hlen : ((d5 t).take i ++ List.replicate ((d5 t).length - i) 0).length = 256 := by rw [List.length_append, List.length_take, List.length_replicate, hl]; omega
  have e2 : Int.tmod (i : Int) 2 = ((i % 2 : Nat) : Int) := by rw [Int.tmod_eq_emod_of_nonneg (by omega)]; omega
  have e3 := sK (bt t ((i / 2 : Nat) : Int)) (i % 2) (by omega) (by omega) (by omega)
  have c1 : (i : Int) < 256 := by omega
  have c2 : (0 : Int) ≤ ((i / 2 : Nat) : Int) := by omega
  have c3 : ((i / 2 : Nat) : Int) < (t.size : Int) := by omega
  have c4 : 0 ≤ wrap64 (4 * ((i % 2 : Nat) : Int)) := by rw [w64 (by omega) (by omega)]; omega
  have c5 : (0 : Int) ≤ (i : Int) := by omega
  have c6 : (i : Int) < (((d5 t).take i ++ List.replicate ((d5 t).length - i) 0).length : Int) := by rw [hlen]; omega
  have c7 := dz i (by omega)
  unfold sY
  simp only [bN.l0, e1, e2]
  rw [Fa c1, Fa c2, Fa c3, Fa c4, e3, Option.bind_some, Fa c5, Fa c6, c7, Int.toNat_natCast]
 ·refine Ev.step (f := fun _ => some (d5 t)) (fun k => ?_) (Ev.now _)
  simp only [bN.l0]
  rw [Ga (by omega), List.take_of_length_le (by omega), hl, Nat.sub_self, List.replicate_zero, List.append_nil]
def iK (s : ByteArray) (n : Int) : List Int := d5 (mG (s ++ kn n) 128)
theorem pL (s : ByteArray) (n : Int) : (iK s n).length = 256 := jU _
theorem l5 (s : ByteArray) : (mG s 128).size = 128 := by
 unfold mG
 rw [ByteArray.size_extract, ic]
 omega
theorem gi (s : ByteArray) (n : Int) (hs : s.size ≤ 1048576) : Ev (fun k => bP.f k s n) (iK s n) := by
 unfold bP.f
 have h1 := gA n
 exact Ev.then (kI n) (Ev.pos (by omega) (Ev.bind (mO _ (by rw [ByteArray.size_append]; omega)) (lE _ (l5 _))))
theorem jM (s : ByteArray) (n : Int) (hs : s.size ≤ 1048576) : Ev (fun k => bN.f k s n) (iK s n) := by
 unfold bN.f
 have h1 := gA n
 refine Ev.then (kF n) (Ev.pos (by omega) (Ev.bind (mQ _ (by rw [ByteArray.size_append]; omega)) (Ev.pos (by decide) (Ev.then (a := List.replicate 256 0) rfl ?_))))
 rw [List.length_replicate]
 exact lA _ (l5 _)
/-- A number taken in, where it is small enough and there is room. -/
def put (l : List Int) (v : Int) : List Int := if v < 3329 ∧ l.length < 256 then l ++ [v] else l
theorem n9 (l : List Int) (v : Int) (h : l.length ≤ 256) : (put l v).length ≤ 256 := by
 unfold put
 split
 ·rw [List.length_append, List.length_singleton]; omega
 ·exact h
def qF (b0 b1 : Int) : Int := b0 + 256 * (b1 % 16)
def oA (b1 b2 : Int) : Int := b1 / 16 + 16 * b2
/-- Three bytes taken in. -/
def oC (l : List Int) (b0 b1 b2 : Int) : List Int := put (put l (qF b0 b1)) (oA b1 b2)
theorem qS (l : List Int) (b0 b1 b2 : Int) (h : l.length ≤ 256) : (oC l b0 b1 b2).length ≤ 256 := n9 _ _ (n9 _ _ h)
/-- The state of block m of the stream. -/
def ep (s : ByteArray) : Nat → ByteArray
 | 0 => s
 | m + 1 => fh (ep s m)
theorem jC (s : ByteArray) (hs : s.size = 200) : ∀ m, (ep s m).size = 200
 | 0 => hs
 | m + 1 => gH _
/-- Byte q of the round i. -/
def rb (s : ByteArray) (i q : Nat) : Int := bt (ep s (i / 56)) ((3 * (i % 56) + q : Nat) : Int)
def gt (s : ByteArray) (l : List Int) (i : Nat) : List Int := oC l (rb s i 0) (rb s i 1) (rb s i 2)
theorem jP (s : ByteArray) (l : List Int) (i : Nat) (h : l.length ≤ 256) : (gt s l i).length ≤ 256 := qS _ _ _ _ h
/-- What n rounds more make, i of them gone. -/
def goU (s : ByteArray) : Nat → List Int → Nat → List Int
 | 0, l, i => l
 | n + 1, l, i => if l.length < 256 then goU s n (gt s l i) (i + 1) else l
def ux (s : ByteArray) : List Int := goU s 4000 [] 0
theorem qo (s : ByteArray) : ∀ n l i, l.length ≤ 256 → (goU s n l i).length ≤ 256
 | 0, l, i, h => h
 | n + 1, l, i, h => by
  simp only [goU]
  split
  ·exact qo s n _ _ (jP s l i h)
  ·exact h
def gv (l : List Int) : List Int := l ++ List.replicate (256 - l.length) 0
theorem oN (l : List Int) (h : l.length ≤ 256) : (gv l).length = 256 := by
 unfold gv
 rw [List.length_append, List.length_replicate]; omega
theorem sa (s : ByteArray) (a n j : Nat) (h : a + n ≤ s.size) (hj : j < n) : bt (s.extract a (a + n)) (j : Int) = bt s ((a + j : Nat) : Int) := by
 have hs : j < (s.extract a (a + n)).size := by rw [ik s a n h]; exact hj
 rw [← cQ (s.extract a (a + n)) (j : Int) (by simpa using hs), ← cQ s ((a + j : Nat) : Int) (by simp; omega)]
 simp only [Int.toNat_natCast]
 rw [ByteArray.getElem_extract]
/-- The reference fills up with zeros. -/
theorem ni (l : List Int) (h : l.length ≤ 256) : Ev (fun k => aj.l1 k l) (gv l) := by
 obtain ⟨d, hd⟩ : ∃ d, d = 256 - l.length := ⟨_, rfl⟩
 induction d generalizing l with
 | zero =>
  refine Ev.step (f := fun _ => some (gv l)) (fun k => ?_) (Ev.now _)
  simp only [aj.l1]
  rw [Ga (by omega)]
  unfold gv
  rw [← hd, List.replicate_zero, List.append_nil]
 | succ d ih =>
  have h1 := ih (l ++ [0]) (by rw [List.length_append, List.length_singleton]; omega) (by rw [List.length_append, List.length_singleton]; omega)
  have e : gv (l ++ [0]) = gv l := by
   unfold gv
   rw [List.length_append, List.length_singleton, show 256 - l.length = 256 - (l.length + 1) + 1 by omega, List.replicate_succ, List.append_assoc]
   rfl
  rw [e] at h1
  refine Ev.step (fun k => ?_) h1
  simp only [aj.l1]
  rw [Fa (by omega), Fa (by omega)]
theorem oK (b0 b1 : Int) (h0 : 0 ≤ b0 ∧ b0 ≤ 255) (h1 : 0 ≤ b1 ∧ b1 ≤ 255) : wrap64 ((wrap64 b0) + (wrap64 (256 * (Int.tmod (wrap64 b1) 16)))) = qF b0 b1 := by
 have e0 : wrap64 b0 = b0 := w64 (by omega) (by omega)
 have e1 : wrap64 b1 = b1 := w64 (by omega) (by omega)
 rw [e0, e1, Int.tmod_eq_emod_of_nonneg h1.1]
 have e2 : wrap64 (256 * (b1 % 16)) = 256 * (b1 % 16) := w64 (by omega) (by omega)
 rw [e2]
 exact w64 (by omega) (by omega)
theorem nr (b1 b2 : Int) (h1 : 0 ≤ b1 ∧ b1 ≤ 255) (h2 : 0 ≤ b2 ∧ b2 ≤ 255) : wrap64 ((wrap64 (Int.tdiv (wrap64 b1) 16)) + (wrap64 (16 * (wrap64 b2)))) = oA b1 b2 := by
 have e0 : wrap64 b2 = b2 := w64 (by omega) (by omega)
 have e1 : wrap64 b1 = b1 := w64 (by omega) (by omega)
 rw [e0, e1, Int.tdiv_eq_ediv_of_nonneg h1.1]
 have e2 : wrap64 (16 * b2) = 16 * b2 := w64 (by omega) (by omega)
 have e3 : wrap64 (b1 / 16) = b1 / 16 := w64 (by omega) (by omega)
 rw [e2, e3]
 exact w64 (by omega) (by omega)
theorem rY (b0 b1 : Int) (h0 : 0 ≤ b0 ∧ b0 ≤ 255) (h1 : 0 ≤ b1 ∧ b1 ≤ 255) : wrap64 ((wrap64 b0) + (wrap64 ((Int.tmod (wrap64 b1) 16) * 256))) = qF b0 b1 := by
 rw [← oK b0 b1 h0 h1, Int.mul_comm]
theorem ol (l : List Int) (v : Int) (h1 : v < 3329) (h2 : l.length < 256) : put l v = l ++ [v] := Fa ⟨h1, h2⟩
theorem jv (l : List Int) (v : Int) (h : ¬ (v < 3329 ∧ l.length < 256)) : put l v = l := Ga h
/-- Where the reference stands ahead of round i. -/
def StS (s : ByteArray) (i : Nat) (x9 str : ByteArray) (at_ : Int) : Prop :=
 (i % 56 ≠ 0 ∧ x9 = (ep s (i / 56)).extract 0 168 ∧ str = ep s (i / 56) ∧ at_ = 168) ∨ (i = 0 ∧ str = s ∧ at_ = 0) ∨ (i % 56 = 0 ∧ 0 < i ∧ str = ep s (i / 56 - 1) ∧ at_ = 168)
theorem StS.next (s : ByteArray) (i : Nat) : StS s (i + 1) ((ep s (i / 56)).extract 0 168) (ep s (i / 56)) 168 := by
 unfold StS
 by_cases h : (i + 1) % 56 = 0
 ·exact Or.inr (Or.inr ⟨h, by omega, by rw [show (i + 1) / 56 - 1 = i / 56 by omega], rfl⟩)
 ·exact Or.inl ⟨h, by rw [show (i + 1) / 56 = i / 56 by omega], by rw [show (i + 1) / 56 = i / 56 by omega], rfl⟩
theorem pq (k : Nat) (s : ByteArray) (hs : s.size = 200) (l : List Int) (hl : l.length < 256) (i : Nat) (hi : i < 4000) : aj.j2 (k + 1) l ((ep s (i / 56)).extract 0 168) (i : Int) ((3 * (i % 56) : Nat) : Int) (ep s (i / 56)) 168 = aj.l0 k (gt s l i) ((ep s (i / 56)).extract 0 168) ((i + 1 : Nat) : Int) (ep s (i / 56)) 168 := by
 have hB := jC s hs (i / 56)
 have hz : ((ep s (i / 56)).extract 0 168).size = 168 := by rw [ByteArray.size_extract]; omega
 have w1 : wrap64 (((3 * (i % 56) : Nat) : Int) + 1) = ((3 * (i % 56) + 1 : Nat) : Int) := by rw [w64 (by omega) (by omega)]; rfl
 have w2 : wrap64 (((3 * (i % 56) : Nat) : Int) + 2) = ((3 * (i % 56) + 2 : Nat) : Int) := by rw [w64 (by omega) (by omega)]; rfl
 have w3 := dz i (by omega)
 have c1 : (0 : Int) ≤ ((3 * (i % 56) : Nat) : Int) := by omega
 have c2 : ((3 * (i % 56) : Nat) : Int) < (((ep s (i / 56)).extract 0 168).size : Int) := by rw [hz]; omega
 have c3 : (0 : Int) ≤ ((3 * (i % 56) + 1 : Nat) : Int) := by omega
 have c4 : ((3 * (i % 56) + 1 : Nat) : Int) < (((ep s (i / 56)).extract 0 168).size : Int) := by rw [hz]; omega
 have c5 : (0 : Int) ≤ ((3 * (i % 56) + 2 : Nat) : Int) := by omega
 have c6 : ((3 * (i % 56) + 2 : Nat) : Int) < (((ep s (i / 56)).extract 0 168).size : Int) := by rw [hz]; omega
 have c7 : l.length < 17592186044416 := by omega
 have c8 : (l.length : Int) < 256 := by omega
 have hb : ∀ q, q < 3 → bt ((ep s (i / 56)).extract 0 168) ((3 * (i % 56) + q : Nat) : Int) = rb s i q := by
  intro q hq
  have := sa (ep s (i / 56)) 0 168 (3 * (i % 56) + q) (by omega) (by omega)
  rw [Nat.zero_add, Nat.zero_add] at this
  exact this
 have r0 : 0 ≤ rb s i 0 ∧ rb s i 0 ≤ 255 := gT _ _
 have r1 : 0 ≤ rb s i 1 ∧ rb s i 1 ≤ 255 := gT _ _
 have r2 : 0 ≤ rb s i 2 ∧ rb s i 2 ≤ 255 := gT _ _
 have e0 : bt ((ep s (i / 56)).extract 0 168) ((3 * (i % 56) : Nat) : Int) = rb s i 0 := hb 0 (by decide)
 have e1 := hb 1 (by decide)
 have e2 := hb 2 (by decide)
 simp only [aj.j2, w1, w2, w3, e0, e1, e2]
 rw [Fa c1, Fa c2, Fa c3, Fa c4, Fa c5, Fa c6, oK _ _ r0 r1, nr _ _ r1 r2]
 clear e0 e1 e2 r0 r1 r2 hb w1 w2 w3 c1 c2 c3 c4 c5 c6 hz hB
 unfold gt oC
 generalize qF (rb s i 0) (rb s i 1) = v
 generalize oA (rb s i 1) (rb s i 2) = u
 by_cases hv : v < 3329
 ·rw [Fa hv, Fa c7, ol l v hv hl, Option.bind_some]
  by_cases hu : u < 3329
  ·rw [Fa hu]
   by_cases hq : (l ++ [v]).length < 256
   ·rw [Fa (by omega), Fa (by omega), ol _ u hu hq]
   ·rw [Ga (by omega), jv _ u (by omega)]
  ·rw [Ga hu, jv _ u (by omega)]
 ·rw [Ga hv, jv l v (by omega)]
  by_cases hu : u < 3329
  ·rw [Fa hu, Fa c8, Fa c7, ol _ u hu hl]
  ·rw [Ga hu, jv _ u (by omega)]
theorem pS (s : ByteArray) (hs : s.size = 200) (l : List Int) (hl : l.length < 256) (i : Nat) (hi : i < 4000) (x9 str : ByteArray) (a : Int) (h : StS s i x9 str a) (r : List Int)
  (hr : Ev (fun k => aj.l0 k (gt s l i) ((ep s (i / 56)).extract 0 168) ((i + 1 : Nat) : Int) (ep s (i / 56)) 168) r) : Ev (fun k => aj.j1 k l x9 (i : Int) true str a) r := by
 have e1 : wrap64 (Int.tmod (i : Int) 56 * 3) = ((3 * (i % 56) : Nat) : Int) := by
  rw [Int.tmod_eq_emod_of_nonneg (by omega), w64 (by omega) (by omega)]; omega
 have h3 : Ev (fun k => aj.j2 k l ((ep s (i / 56)).extract 0 168) (i : Int) ((3 * (i % 56) : Nat) : Int) (ep s (i / 56)) 168) r := Ev.step (fun k => pq k s hs l hl i hi) hr
 rcases h with ⟨h1, rfl, rfl, rfl⟩ | h
 ·refine Ev.step (fun k => ?_) h3
  simp only [aj.j1, e1]
  rw [Fa trivial, Ga (by omega)]
 ·have hz : i % 56 = 0 := by omega
  have ht : Ev (fun k => aw.f k str a 168) (ep s (i / 56), 168, (ep s (i / 56)).extract 0 168) := by
   rcases h with ⟨rfl, rfl, rfl⟩ | ⟨_, hp, rfl, rfl⟩
   ·exact j4 str 0 168 hs (by decide) (by decide)
   ·have := mN (ep s (i / 56 - 1)) 168 (jC s hs _) (by decide) (by decide)
    have e : fh (ep s (i / 56 - 1)) = ep s (i / 56) := by
     obtain ⟨m, hm⟩ : ∃ m, i / 56 = m + 1 := ⟨i / 56 - 1, by omega⟩
     rw [hm]; rfl
    rw [e] at this
    exact this
  refine Ev.step (f := fun k => (aw.f k str a 168).bind fun bt249 => aj.j2 k l bt249.2.2 (i : Int) ((3 * (i % 56) : Nat) : Int) bt249.1 bt249.2.1) (fun k => ?_) (Ev.bind ht h3)
  simp only [aj.j1, e1]
  rw [Fa trivial, Fa (by omega)]
theorem kX (s : ByteArray) (hs : s.size = 200) : ∀ n l i x9 str a, n + i = 4000 → l.length ≤ 256 → StS s i x9 str a → Ev (fun k => aj.l0 k l x9 (i : Int) str a) (gv (goU s n l i))
 | 0, l, i, x9, str, a, hn, hl, h => by
  refine Ev.step (f := fun k => aj.j1 k l x9 (i : Int) false str a) (fun k => ?_) (Ev.step (fun k => ?_) (ni l hl))
  ·simp only [aj.l0]
   rw [Ga (by omega)]
  ·simp only [aj.j1]
   rw [Ga (by decide)]
 | n + 1, l, i, x9, str, a, hn, hl, h => by
  simp only [goU]
  by_cases hq : l.length < 256
  ·rw [Fa hq]
   have ih := kX s hs n (gt s l i) (i + 1) _ _ 168 (by omega) (jP s l i hl) (StS.next s i)
   refine Ev.step (fun k => ?_) (pS s hs l hq i (by omega) x9 str a h _ ih)
   simp only [aj.l0]
   rw [Fa (by omega), ya (by omega)]
  ·rw [Ga hq]
   refine Ev.step (f := fun k => aj.j1 k l x9 (i : Int) false str a) (fun k => ?_) (Ev.step (fun k => ?_) (ni l hl))
   ·simp only [aj.l0]
    rw [Fa (by omega), za (by omega)]
   ·simp only [aj.j1]
    rw [Ga (by decide)]
/-- Where the program stands ahead of round i. -/
def StI (s : ByteArray) (i : Nat) (str : ByteArray) (at_ : Int) : Prop :=
 (i % 56 ≠ 0 ∧ str = ep s (i / 56) ∧ at_ = ((3 * (i % 56) : Nat) : Int)) ∨ (i = 0 ∧ str = s ∧ at_ = 0) ∨ (i % 56 = 0 ∧ 0 < i ∧ str = ep s (i / 56 - 1) ∧ at_ = 168)
theorem StI.next (s : ByteArray) (i : Nat) : StI s (i + 1) (ep s (i / 56)) ((3 * (i % 56) + 3 : Nat) : Int) := by
 unfold StI
 by_cases h : (i + 1) % 56 = 0
 ·exact Or.inr (Or.inr ⟨h, by omega, by rw [show (i + 1) / 56 - 1 = i / 56 by omega], by omega⟩)
 ·exact Or.inl ⟨h, by rw [show (i + 1) / 56 = i / 56 by omega], by omega⟩
theorem rk (l : List Int) (v : Int) (h : l.length < 256) : (gv l).set l.length v = gv (l ++ [v]) := by
 unfold gv
 rw [List.set_append_right _ _ (Ca _), Nat.sub_self, List.length_append, List.length_singleton, show 256 - l.length = 256 - (l.length + 1) + 1 by omega, List.replicate_succ, List.set_cons_zero, List.append_assoc]
 rfl
theorem ph (l y : List Int) (hl : l.length ≤ 256) (v : Int) (i : Int) (j : Nat) (hj : j < 2) (hy : y.length = 2) (hv : rd y (j : Int) = v) (str : ByteArray) (a : Int) (r : List Int)
  (h : Ev (fun k => am.l1 k (gv (put l v)) ((put l v).length : Int) i y 2 ((j + 1 : Nat) : Int) str a) r) : Ev (fun k => am.l1 k (gv l) (l.length : Int) i y 2 (j : Int) str a) r := by
 refine Ev.step (fun k => ?_) h
 have c1 : (j : Int) < 2 := by omega
 have c2 : (0 : Int) ≤ (j : Int) := by omega
 have c3 : (j : Int) < (y.length : Int) := by omega
 have w1 := dz j (by omega)
 have w2 := dz l.length (by omega)
 have hf := oN l hl
 simp only [am.l1, hv, w1, w2]
 rw [Fa c1, Fa c2, Fa c3]
 by_cases h1 : v < 3329
 ·rw [Fa h1]
  by_cases h2 : l.length < 256
  ·rw [Fa (by omega), Fa (by omega), Fa (by omega), Int.toNat_natCast, ol l v h1 h2, rk l v h2, List.length_append, List.length_singleton]
  ·rw [Ga (by omega), jv l v (by omega)]
 ·rw [Ga h1, jv l v (by omega)]
theorem pE (s : ByteArray) (hs : s.size = 200) (l : List Int) (hl : l.length < 256) (i : Nat) (hi : i < 4000) (str : ByteArray) (a : Int) (h : StI s i str a) (r : List Int)
  (hr : Ev (fun k => am.l0 k (gv (gt s l i)) ((gt s l i).length : Int) ((i + 1 : Nat) : Int) (ep s (i / 56)) ((3 * (i % 56) + 3 : Nat) : Int)) r) : Ev (fun k => am.j1 k (gv l) (l.length : Int) (i : Int) true str a) r := by
 have hB := jC s hs (i / 56)
 have ht : Ev (fun k => al.f k str a 3) (ep s (i / 56), ((3 * (i % 56) + 3 : Nat) : Int), (ep s (i / 56)).extract (3 * (i % 56)) (3 * (i % 56) + 3)) := by
  rcases h with ⟨h1, rfl, rfl⟩ | ⟨rfl, rfl, rfl⟩ | ⟨hz, hp, rfl, rfl⟩
  ·exact iB _ (3 * (i % 56)) 3 hB (by decide) (by omega)
  ·exact iB str 0 3 hs (by decide) (by decide)
  ·have := mX (ep s (i / 56 - 1)) 3 (jC s hs _) (by decide) (by decide)
   have e : fh (ep s (i / 56 - 1)) = ep s (i / 56) := by
    obtain ⟨m, hm⟩ : ∃ m, i / 56 = m + 1 := ⟨i / 56 - 1, by omega⟩
    rw [hm]; rfl
   rw [e] at this
   rw [hz]
   exact this
 have hz := ik (ep s (i / 56)) (3 * (i % 56)) 3 (by omega)
 have hb : ∀ q : Nat, q < 3 → bt ((ep s (i / 56)).extract (3 * (i % 56)) (3 * (i % 56) + 3)) (q : Int) = rb s i q := fun q hq => sa (ep s (i / 56)) (3 * (i % 56)) 3 q (by omega) hq
 have z0 : (0 : Int) < (((ep s (i / 56)).extract (3 * (i % 56)) (3 * (i % 56) + 3)).size : Int) := by rw [hz]; decide
 have z1 : (1 : Int) < (((ep s (i / 56)).extract (3 * (i % 56)) (3 * (i % 56) + 3)).size : Int) := by rw [hz]; decide
 have z2 : (2 : Int) < (((ep s (i / 56)).extract (3 * (i % 56)) (3 * (i % 56) + 3)).size : Int) := by rw [hz]; decide
 have w3 := dz i (by omega)
 have r0 : 0 ≤ rb s i 0 ∧ rb s i 0 ≤ 255 := gT _ _
 have r1 : 0 ≤ rb s i 1 ∧ rb s i 1 ≤ 255 := gT _ _
 have r2 : 0 ≤ rb s i 2 ∧ rb s i 2 ≤ 255 := gT _ _
 have e0 : bt ((ep s (i / 56)).extract (3 * (i % 56)) (3 * (i % 56) + 3)) 0 = rb s i 0 := hb 0 (by decide)
 have e1 : bt ((ep s (i / 56)).extract (3 * (i % 56)) (3 * (i % 56) + 3)) 1 = rb s i 1 := hb 1 (by decide)
 have e2 : bt ((ep s (i / 56)).extract (3 * (i % 56)) (3 * (i % 56) + 3)) 2 = rb s i 2 := hb 2 (by decide)
 generalize hE : (ep s (i / 56)).extract (3 * (i % 56)) (3 * (i % 56) + 3) = E at ht hz e0 e1 e2 z0 z1 z2
 refine Ev.step (f := fun k => (al.f k str a 3).bind fun bt273 => (if 0 < (bt273.2.2.size : Int) then (if 1 < (bt273.2.2.size : Int) then (if 2 < (bt273.2.2.size : Int) then ((some (([wrap64 ((wrap64 (bt bt273.2.2 0)) + (wrap64 ((Int.tmod (wrap64 (bt bt273.2.2 1)) 16) * 256))), wrap64 ((wrap64 (Int.tdiv (wrap64 (bt bt273.2.2 1)) 16)) + (wrap64 (16 * (wrap64 (bt bt273.2.2 2)))))] : List Int) : List Int)).bind fun y277 => (am.l1 k (gv l) (l.length : Int) (i : Int) y277 (y277.length : Int) 0 bt273.1 bt273.2.1)) else (none)) else (none)) else (none))) (fun k => ?_) (Ev.bind ht ?_)
 ·simp only [am.j1]
  rw [Fa trivial]
 ·refine Ev.pos z0 (Ev.pos z1 (Ev.pos z2 ?_))
  simp only [Option.bind_some, e0, e1, e2, rY _ _ r0 r1, nr _ _ r1 r2]
  clear e0 e1 e2 r0 r1 r2 hb hz z0 z1 z2 ht
  unfold gt oC at hr
  generalize qF (rb s i 0) (rb s i 1) = v at hr ⊢
  generalize oA (rb s i 1) (rb s i 2) = u at hr ⊢
  refine ph l [v, u] (by omega) v (i : Int) 0 (by decide) rfl rfl _ _ r ?_
  refine ph (put l v) [v, u] (n9 _ _ (by omega)) u (i : Int) 1 (by decide) rfl rfl _ _ r ?_
  refine Ev.step (fun k => ?_) hr
  simp only [am.l1]
  rw [Ga (by decide), w3]
theorem k8 (s : ByteArray) (hs : s.size = 200) : ∀ n l i str a, n + i = 4000 → l.length ≤ 256 → StI s i str a → Ev (fun k => am.l0 k (gv l) (l.length : Int) (i : Int) str a) (gv (goU s n l i))
 | 0, l, i, str, a, hn, hl, h => by
  refine Ev.step (f := fun k => am.j1 k (gv l) (l.length : Int) (i : Int) false str a) (fun k => ?_) (Ev.step (f := fun _ => some (gv l)) (fun k => ?_) (Ev.now _))
  ·simp only [am.l0]
   rw [Ga (by omega)]
  ·simp only [am.j1]
   rw [Ga (by decide)]
 | n + 1, l, i, str, a, hn, hl, h => by
  simp only [goU]
  by_cases hq : l.length < 256
  ·rw [Fa hq]
   have ih := k8 s hs n (gt s l i) (i + 1) _ _ (by omega) (jP s l i hl) (StI.next s i)
   refine Ev.step (fun k => ?_) (pE s hs l hq i (by omega) str a h _ ih)
   simp only [am.l0]
   rw [Fa (by omega), ya (by omega)]
  ·rw [Ga hq]
   refine Ev.step (f := fun k => am.j1 k (gv l) (l.length : Int) (i : Int) false str a) (fun k => ?_) (Ev.step (f := fun _ => some (gv l)) (fun k => ?_) (Ev.now _))
   ·simp only [am.l0]
    rw [Fa (by omega), za (by omega)]
   ·simp only [am.j1]
    rw [Ga (by decide)]
def jD (s : ByteArray) (x y : Int) : List Int := gv (ux (mI ((s ++ kn x) ++ kn y)))
theorem q7 (s : ByteArray) : (ux s).length ≤ 256 := qo s 4000 [] 0 (by decide)
theorem r4 (s : ByteArray) (x y : Int) : (jD s x y).length = 256 := oN _ (q7 _)
theorem lr (s : ByteArray) (x y : Int) (hs : s.size ≤ 1048576) : Ev (fun k => aj.f k s x y) (jD s x y) := by
 unfold aj.f
 have h1 := gA x
 have h2 := gA y
 have h3 : (s ++ kn x).size = s.size + 1 := by rw [ByteArray.size_append, h1]
 have h4 : ((s ++ kn x) ++ kn y).size = s.size + 2 := by rw [ByteArray.size_append, h2, h3]
 refine Ev.then (kI x) (Ev.pos (by omega) (Ev.then (kI y) (Ev.pos (by omega) (Ev.bind (lh _ (by omega)) ?_))))
 exact kX _ (ic _) 4000 [] 0 _ _ 0 rfl (by decide) (Or.inr (Or.inl ⟨rfl, rfl, rfl⟩))
theorem iX (s : ByteArray) (x y : Int) (hs : s.size ≤ 1048576) : Ev (fun k => am.f k s x y) (jD s x y) := by
 unfold am.f
 have h1 := gA x
 have h2 := gA y
 have h3 : (s ++ kn x).size = s.size + 1 := by rw [ByteArray.size_append, h1]
 have h4 : ((s ++ kn x) ++ kn y).size = s.size + 2 := by rw [ByteArray.size_append, h2, h3]
 refine Ev.then (kF x) (Ev.pos (by omega) (Ev.then (kF y) (Ev.pos (by omega) (Ev.bind (lg _ (by omega)) (Ev.pos (by decide) ?_)))))
 exact k8 _ (ic _) 4000 [] 0 _ 0 rfl (by decide) (Or.inr (Or.inl ⟨rfl, rfl, rfl⟩))
def qO (l : List Int) : Prop := ∀ x ∈ l, 0 ≤ x ∧ x ≤ 3328
theorem tA (l : List Int) (v : Int) (hv : 0 ≤ v) (h : qO l) : qO (put l v) := by
 unfold put
 split
 ·rename_i hc
  intro x hx
  rw [List.mem_append, List.mem_singleton] at hx
  rcases hx with hx | hx
  ·exact h x hx
  ·rw [hx]; omega
 ·exact h
theorem sb (s : ByteArray) (l : List Int) (i : Nat) (h : qO l) : qO (gt s l i) := by
 have r0 : 0 ≤ rb s i 0 ∧ rb s i 0 ≤ 255 := gT _ _
 have r1 : 0 ≤ rb s i 1 ∧ rb s i 1 ≤ 255 := gT _ _
 have r2 : 0 ≤ rb s i 2 ∧ rb s i 2 ≤ 255 := gT _ _
 unfold gt oC
 generalize rb s i 0 = a at r0 ⊢
 generalize rb s i 1 = b at r1 ⊢
 generalize rb s i 2 = c at r2 ⊢
 exact tA _ _ (by unfold oA; omega) (tA _ _ (by unfold qF; omega) h)
theorem tu (s : ByteArray) : ∀ n l i, qO l → qO (goU s n l i)
 | 0, l, i, h => h
 | n + 1, l, i, h => by
  simp only [goU]
  split
  ·exact tu s n _ _ (sb s l i h)
  ·exact h
theorem qg (s : ByteArray) (x y : Int) : bW (jD s x y) = true := by
 refine kM (r4 s x y) ?_
 unfold jD gv
 intro z hz
 rw [List.mem_append] at hz
 rcases hz with hz | hz
 ·exact tu _ 4000 [] 0 (fun x hx => absurd hx (by simp)) z hz
 ·rw [List.eq_of_mem_replicate hz]; decide
theorem uE (v : Int) : (0 ≤ cb v ∧ cb v ≤ 2) ∨ (3327 ≤ cb v ∧ cb v ≤ 3328) := by
 unfold cb
 rcases Int.emod_two_eq v with h1 | h1 <;> rcases Int.emod_two_eq (v / 2) with h2 | h2 <;> rcases Int.emod_two_eq (v / 4) with h3 | h3 <;> rcases Int.emod_two_eq (v / 8) with h4 | h4 <;> rw [h1, h2, h3, h4] <;> decide
theorem pN (t : ByteArray) {x : Int} (h : x ∈ d5 t) : (0 ≤ x ∧ x ≤ 2) ∨ (3327 ≤ x ∧ x ≤ 3328) := by
 unfold d5 at h
 obtain ⟨i, _, rfl⟩ := List.mem_map.mp h
 exact uE _
theorem kT (s : ByteArray) (n : Int) : bW (iK s n) = true :=
 kM (pL s n) fun x hx => by have := pN _ hx; omega
theorem nH (x : Int) : 0 ≤ Go.bits .and .i64 x 255 ∧ Go.bits .and .i64 x 255 ≤ 255 := by
 have h : ((BitVec.ofInt 64 x &&& BitVec.ofInt 64 255).toNat) ≤ 255 := by
  rw [BitVec.toNat_and]
  exact Nat.and_le_right
 show 0 ≤ IntKind.i64.wrap (((BitVec.ofInt 64 x &&& BitVec.ofInt 64 255).toNat : Nat) : Int) ∧ IntKind.i64.wrap (((BitVec.ofInt 64 x &&& BitVec.ofInt 64 255).toNat : Nat) : Int) ≤ 255
 rw [IntKind.wrap_i64]
 omega
/-- The place of a cursor. -/
def Cur (l : List Int) (i : Int) : Prop := 0 ≤ i ∧ i ≤ l.length ∧ l.length ≤ 1048576
theorem rn (l : List Int) (hl : l.length ≤ 1048576) : ∃ h, Ev (fun k => b5.f k l) (l, 0, h) ∧ Cur l 0 := by
 have key : ∀ d i : Nat, ∀ h : Int, l.length - i = d → i ≤ l.length → ∃ h', Ev (fun k => b5.l0 k l h (i : Int)) (l, (0 : Int), h') := by
  intro d
  induction d with
  | zero =>
   intro i h hd hi
   refine ⟨h, Ev.step (f := fun _ => some (l, 0, h)) (fun k => ?_) (Ev.now _)⟩
   simp only [b5.l0]
   rw [Ga (by omega)]
  | succ d ih =>
   intro i h hd hi
   by_cases h4 : i < 4000
   ·obtain ⟨h', e⟩ := ih (i + 1) (Go.bits .and .i64 (wrap64 ((wrap64 ((wrap64 (h * 131)) + (wrap64 (rd l i)))) + 7)) 1073741823) (by omega) (by omega)
    refine ⟨h', Ev.step (fun k => ?_) e⟩
    simp only [b5.l0]
    rw [Fa (by omega), Fa (by omega), Fa (by omega), dz i (by omega)]
   ·refine ⟨h, Ev.step (f := fun _ => some (l, 0, h)) (fun k => ?_) (Ev.now _)⟩
    simp only [b5.l0]
    rw [Fa (by omega), Ga (by omega)]
 obtain ⟨h', e⟩ := key l.length 0 (wrap64 (27401 + (l.length : Int))) (by omega) (by omega)
 exact ⟨h', e, by unfold Cur; omega⟩
theorem gC (l : List Int) (i h : Int) (hc : Cur l i) : ∃ x i' h', cA.f l i h = some (x, i', h') ∧ 0 ≤ x ∧ x ≤ 255 ∧ Cur l i' := by
 obtain ⟨h0, h1, h2⟩ := hc
 unfold cA.f
 by_cases hi : i < l.length
 ·rw [Fa hi, Fa h0, w64 (x := i + 1) (by omega) (by omega)]
  exact ⟨_, _, _, rfl, (nH _).1, (nH _).2, by unfold Cur; omega⟩
 ·rw [Ga hi]
  exact ⟨_, _, _, rfl, (nH _).1, (nH _).2, by unfold Cur; omega⟩
theorem iD {x n : Int} (h0 : 0 ≤ x) (hn : 0 < n) : 0 ≤ Int.tmod x n ∧ Int.tmod x n < n := by
 rw [Int.tmod_eq_emod_of_nonneg h0]
 exact ⟨Int.emod_nonneg _ (by omega), Int.emod_lt_of_pos _ hn⟩
theorem mb (l : List Int) (i h n : Int) (hc : Cur l i) (hn : 0 < n) : ∃ x i' h', dy.f l i h n = some (x, i', h') ∧ 0 ≤ x ∧ x < n ∧ Cur l i' := by
 unfold dy.f
 rw [Ga (by omega)]
 by_cases h256 : n ≤ 256
 ·obtain ⟨x, i', h', e, hx0, hx1, hc'⟩ := gC l i h hc
  rw [Fa h256, e]
  simp only [Option.bind_some]
  rw [Ga (by omega)]
  exact ⟨_, _, _, rfl, (iD hx0 hn).1, (iD hx0 hn).2, hc'⟩
 ·obtain ⟨a, i1, h1, e1, ha0, ha1, hc1⟩ := gC l i h hc
  obtain ⟨b, i2, h2, e2, hb0, hb1, hc2⟩ := gC l i1 h1 hc1
  obtain ⟨c, i3, h3, e3, hc0, hc1', hc3⟩ := gC l i2 h2 hc2
  obtain ⟨d, i4, h4, e4, hd0, hd1, hc4⟩ := gC l i3 h3 hc3
  rw [Ga h256, e1]
  simp only [Option.bind_some]
  rw [e2]
  simp only [Option.bind_some]
  rw [e3]
  simp only [Option.bind_some]
  rw [e4]
  simp only [Option.bind_some]
  rw [Ga (by omega)]
  have e : wrap64 ((wrap64 ((wrap64 ((wrap64 (a * 16777216)) + (wrap64 (b * 65536)))) + (wrap64 (c * 256)))) + d) = a * 16777216 + b * 65536 + c * 256 + d := by
   rw [w64 (x := a * 16777216) (by omega) (by omega), w64 (x := b * 65536) (by omega) (by omega), w64 (x := c * 256) (by omega) (by omega), w64 (x := a * 16777216 + b * 65536) (by omega) (by omega), w64 (x := a * 16777216 + b * 65536 + c * 256) (by omega) (by omega), w64 (by omega) (by omega)]
  rw [e]
  have hx0 : 0 ≤ a * 16777216 + b * 65536 + c * 256 + d := by omega
  exact ⟨_, _, _, rfl, (iD hx0 hn).1, (iD hx0 hn).2, hc4⟩
theorem nu (l : List Int) (i h : Int) (n : Int) (hc : Cur l i) (hn : n ≤ 5000) : ∃ (t : ByteArray) (i' h' : Int), Ev (fun k => bc.f k l i h n) (t, i', h') ∧ t.size = n.toNat ∧ Cur l i' := by
 have key : ∀ d m : Nat, ∀ (ps : List Int) (i h : Int), n.toNat - m = d → m ≤ n.toNat → Cur l i → ps.length = m →
   ∃ (t : ByteArray) (i' h' : Int), Ev (fun k => bc.l0 k n ps (m : Int) l i h) (t, i', h') ∧ t.size = n.toNat ∧ Cur l i' := by
  intro d
  induction d with
  | zero =>
   intro m ps i h hd hm hc hp
   refine ⟨strOfNums ps, i, h, Ev.step (f := fun _ => some (strOfNums ps, i, h)) (fun k => ?_) (Ev.now _), by rw [strOfNums_size]; omega, hc⟩
   simp only [bc.l0]
   rw [Ga (by omega)]
  | succ d ih =>
   intro m ps i h hd hm hc hp
   obtain ⟨x, i1, h1, e1, _, _, hc1⟩ := gC l i h hc
   obtain ⟨t, i', h', e, ht, hc'⟩ := ih (m + 1) (ps ++ [x % 256]) i1 h1 (by omega) (by omega) hc1 (by simp [hp])
   have c1 : (m : Int) < n := by omega
   have c2 : ps.length < 140737488355328 := by omega
   refine ⟨t, i', h', Ev.step (fun k => ?_) e, ht, hc'⟩
   simp only [bc.l0]
   rw [Fa c1, e1, Option.bind_some, Fa c2, dz m (by omega)]
 obtain ⟨t, i', h', e, ht, hc'⟩ := key n.toNat 0 [] i h (by omega) (by omega) hc rfl
 refine ⟨t, i', h', ?_, ht, hc'⟩
 unfold bc.f
 refine Ev.neg (by omega) ?_
 refine Ev.step (fun k => ?_) e
 simp only [bc.j0]
 rfl
theorem mz (b : Nat) (l : List Int) (hf : l.all (gG b) = true) : dj (d1 b l) = gu b (ja l) ∧ (d1 b l).size = (l.length * b + 7) / 8 := by
 have hlt := lN b (ja l) (kd hf)
 rw [fO] at hlt
 have hsz : (d1 b l).size = (l.length * b + 7) / 8 := by unfold d1; rw [strOfNums_size, fb]
 have h256 : gu b (ja l) < 256 ^ ((l.length * b + 7) / 8) := by
  refine Nat.lt_of_lt_of_le hlt ?_
  rw [gL]
  refine Nat.pow_le_pow_right (by decide) ?_
  rw [Nat.mul_comm b]
  omega
 refine ⟨?_, hsz⟩
 have h1 := iy (d1 b l)
 have h2 := kb (d1 b l)
 rw [hsz] at h1 h2
 exact nh h2 h256 h1
theorem o8 (b : Int) (l : List Int) (h1 : 1 ≤ b) (h2 : b ≤ 12) (hl : l.length ≤ 1000) (hf : l.all (gG b.toNat) = true) : dN (d1 b.toNat l) b (l.length : Int) = (l, true) := by
 obtain ⟨hn, hs⟩ := mz b.toNat l hf
 have hlt := lN b.toNat (ja l) (kd hf)
 rw [fO] at hlt
 unfold dN
 rw [Fa ⟨⟨h1, h2⟩, ⟨by omega, by omega⟩, by rw [hs, Int.toNat_natCast]⟩, hn, Int.toNat_natCast, Fa hlt]
 refine congrArg (·, true) ?_
 apply List.ext_getElem
 ·rw [eD]
 ·intro i ha hb
  rw [pY, lV b.toNat (ja l) (kd hf) i (by rw [fO]; exact hb)]
  simp only [ja, List.getElem_map]
  have h3 := of_decide_eq_true (List.all_eq_true.mp hf l[i] (List.getElem_mem hb))
  omega
theorem jN (s : ByteArray) (i j : Nat) : (s.extract i j).data.toList = (s.data.toList.drop i).take (j - i) := by
 rw [ByteArray.data_extract, Array.toList_extract]
theorem mZ (s t : ByteArray) : (s ++ t).data.toList = s.data.toList ++ t.data.toList := by
 rw [ByteArray.data_append, Array.toList_append]
theorem pF (s : ByteArray) : s.data.toList.length = s.size := Array.length_toList
def W32 (x : Int) : Prop := 0 ≤ x ∧ x < 4294967296
theorem W32.mod (x : Int) : W32 (x % 4294967296) := by unfold W32; omega
theorem W32.xor (a b : Int) : W32 (Go.bits .xor .u32 a b) := by
 show W32 (IntKind.u32.wrap (((BitVec.ofInt 32 a ^^^ BitVec.ofInt 32 b).toNat : Nat) : Int))
 rw [IntKind.wrap_u32']; exact W32.mod _
theorem W32.or (a b : Int) : W32 (Go.bits .or .u32 a b) := by
 show W32 (IntKind.u32.wrap (((BitVec.ofInt 32 a ||| BitVec.ofInt 32 b).toNat : Nat) : Int))
 rw [IntKind.wrap_u32']; exact W32.mod _
theorem sF : ∀ n : Int, 0 ≤ n → n < 2 ^ 32 → IntKind.u32.wrap n = n := fun n h0 h1 => by rw [IntKind.wrap_u32']; omega
/-- Two words joined that share no bit. -/
theorem sh (i : Nat) (x y : Int) (hx : W32 x) (hi : x % 2 ^ i = 0) (hy : W32 y) (hyi : y < 2 ^ i) : Go.bits .or .u32 x y = x + y :=
 bits_join .u32 32 (by decide) sF i x y hx.1 hi (by have := hx.2; omega) hy.1 hyi (by have := hy.2; omega)
theorem uB (e : Int) (h : W32 e) : Go.bits .xor .u32 (if IntKind.u32.signed = true then -1 else IntKind.u32.max) e = 4294967295 - e := by
 obtain ⟨n, rfl⟩ := Int.eq_ofNat_of_zero_le h.1
 have hn : n < 4294967296 := by have := h.2; omega
 show IntKind.u32.wrap (((BitVec.ofInt 32 4294967295 ^^^ BitVec.ofInt 32 (n : Int)).toNat : Nat) : Int) = _
 have h1 : (BitVec.ofInt 32 4294967295 ^^^ BitVec.ofInt 32 (n : Int)).toNat = 4294967295 - n := by
  have e1 : BitVec.ofInt 32 4294967295 = BitVec.allOnes 32 := by decide
  rw [e1, BitVec.allOnes_xor, BitVec.toNat_not, BitVec.toNat_ofInt]
  omega
 rw [h1, IntKind.wrap_u32']
 omega
theorem tI (x : Int) (n : Nat) (h1 : 1 ≤ n) (h2 : n ≤ 31) (h : W32 x) : rot x n = x / 2 ^ n + (x % 2 ^ n) * 2 ^ (32 - n) := by
 obtain ⟨A, hA⟩ : ∃ A : Int, A = 2 ^ n := ⟨_, rfl⟩
 obtain ⟨B, hB⟩ : ∃ B : Int, B = 2 ^ (32 - n) := ⟨_, rfl⟩
 have hA0 : 0 < A := by rw [hA]; exact Int.pow_pos (by decide)
 have hB0 : 0 < B := by rw [hB]; exact Int.pow_pos (by decide)
 have hAB : B * A = 4294967296 := by
  rw [hA, hB, ← Int.pow_add, show 32 - n + n = 32 by omega]; rfl
 have hl : shl .u32 x ((32 - n : Nat) : Int) = (x % A) * B := by
  unfold shl
  rw [Int.toNat_natCast, Nat.min_eq_left (by show 32 - n ≤ 32; omega), IntKind.wrap_u32', ← hB, ← hAB, Int.mul_comm x B, Int.mul_emod_mul_of_pos _ _ hB0, Int.mul_comm]
 have hr : shr .u32 x (n : Int) = x / A := by
  unfold shr
  rw [Int.toNat_natCast, Nat.min_eq_left (by show n ≤ 32; omega), ← hA]
 have hm0 := Int.emod_nonneg x (Int.ne_of_gt hA0)
 have hm1 := Int.emod_lt_of_pos x hA0
 have hd0 : 0 ≤ x / A := Int.ediv_nonneg h.1 (Int.le_of_lt hA0)
 have hd1 : x / A < B := Int.ediv_lt_of_lt_mul hA0 (by rw [hAB]; exact h.2)
 have hmb : (x % A) * B < 4294967296 := by
  have h3 : (x % A + 1) * B ≤ A * B := Int.mul_le_mul_of_nonneg_right (by omega) (Int.le_of_lt hB0)
  rw [Int.mul_comm A B, hAB, Int.add_mul, Int.one_mul] at h3
  omega
 have hB1 : B ≤ 4294967296 := by
  have h3 : B * 1 ≤ B * A := Int.mul_le_mul_of_nonneg_left (by omega) (Int.le_of_lt hB0)
  rw [hAB, Int.mul_one] at h3; exact h3
 unfold rot
 rw [hl, hr, ← hA, ← hB, sh (32 - n) _ _ ⟨Int.mul_nonneg hm0 (Int.le_of_lt hB0), hmb⟩ (by rw [← hB]; exact Int.mul_emod_left _ _) ⟨hd0, by omega⟩ (by rw [← hB]; exact hd1), Int.add_comm]
theorem uA (x : Int) (n : Nat) : W32 (rot x n) := W32.or _ _
theorem go (x : Int) (n : Nat) (a b : Int) (ha : a = 2 ^ n) (hb : b = 2 ^ (32 - n)) (h1 : 1 ≤ n) (h2 : n ≤ 31) (h : W32 x) : cN.f x a b = some (rot x n) := by
 have hA0 : 0 < a := by rw [ha]; exact Int.pow_pos (by decide)
 have hr := tI x n h1 h2 h
 have hw := uA x n
 rw [← ha, ← hb] at hr
 have hw1 := hw.1
 have hw2 := hw.2
 have hd0 : 0 ≤ x / a := Int.ediv_nonneg h.1 (Int.le_of_lt hA0)
 have hb0 : 0 ≤ b := by rw [hb]; exact Int.le_of_lt (Int.pow_pos (by decide))
 have hm0 : 0 ≤ x % a * b := Int.mul_nonneg (Int.emod_nonneg x (Int.ne_of_gt hA0)) hb0
 unfold cN.f
 rw [Ga (Int.ne_of_gt hA0), Int.tdiv_eq_ediv_of_nonneg h.1, Int.tmod_eq_emod_of_nonneg h.1]
 rw [hr] at hw1 hw2 ⊢
 congr 1
 rw [Int.emod_eq_of_lt hd0 (by omega), Int.emod_eq_of_lt hm0 (by omega), Int.emod_eq_of_lt hw1 hw2]
theorem m9 (x : Int) (n m : Nat) (a b c : Int) (ha : a = 2 ^ n) (hb : b = 2 ^ m) (hc : c ≠ 0) (ha2 : (Int.tdiv 2147483648 a % 4294967296) * 2 % 4294967296 = 2 ^ (32 - n)) (hb2 : (Int.tdiv 2147483648 b % 4294967296) * 2 % 4294967296 = 2 ^ (32 - m)) (hn : 1 ≤ n ∧ n ≤ 31) (hm : 1 ≤ m ∧ m ≤ 31) (hcx : 0 < c) (h : W32 x) :
  cX.f x a b c true = some (Go.bits .xor .u32 (Go.bits .xor .u32 (rot x n) (rot x m)) (x / c)) := by
 have ha0 : a ≠ 0 := by rw [ha]; exact Int.ne_of_gt (Int.pow_pos (by decide))
 have hb0 : b ≠ 0 := by rw [hb]; exact Int.ne_of_gt (Int.pow_pos (by decide))
 unfold cX.f
 rw [Ga ha0, go x n a _ ha ha2 hn.1 hn.2 h]
 simp only [Option.bind_some]
 rw [Ga hb0, go x m b _ hb hb2 hm.1 hm.2 h]
 simp only [Option.bind_some]
 rw [Ga hc, Fa trivial, Int.tdiv_eq_ediv_of_nonneg h.1]
 have h1 : 0 ≤ x / c := Int.ediv_nonneg h.1 (Int.le_of_lt hcx)
 have h2 : x / c ≤ x := Int.ediv_le_self _ h.1
 rw [Int.emod_eq_of_lt h1 (by have := h.2; omega)]
theorem mw (x : Int) (n m q : Nat) (a b c : Int) (ha : a = 2 ^ n) (hb : b = 2 ^ m) (hc : c = 2 ^ q) (ha2 : (Int.tdiv 2147483648 a % 4294967296) * 2 % 4294967296 = 2 ^ (32 - n)) (hb2 : (Int.tdiv 2147483648 b % 4294967296) * 2 % 4294967296 = 2 ^ (32 - m)) (hc2 : (Int.tdiv 2147483648 c % 4294967296) * 2 % 4294967296 = 2 ^ (32 - q)) (hn : 1 ≤ n ∧ n ≤ 31) (hm : 1 ≤ m ∧ m ≤ 31) (hq : 1 ≤ q ∧ q ≤ 31) (h : W32 x) :
  cX.f x a b c false = some (Go.bits .xor .u32 (Go.bits .xor .u32 (rot x n) (rot x m)) (rot x q)) := by
 have ha0 : a ≠ 0 := by rw [ha]; exact Int.ne_of_gt (Int.pow_pos (by decide))
 have hb0 : b ≠ 0 := by rw [hb]; exact Int.ne_of_gt (Int.pow_pos (by decide))
 have hc0 : c ≠ 0 := by rw [hc]; exact Int.ne_of_gt (Int.pow_pos (by decide))
 unfold cX.f
 rw [Ga ha0, go x n a _ ha ha2 hn.1 hn.2 h]
 simp only [Option.bind_some]
 rw [Ga hb0, go x m b _ hb hb2 hm.1 hm.2 h]
 simp only [Option.bind_some]
 rw [Ga hc0, Ga (by decide), go x q c _ hc hc2 hq.1 hq.2 h]
 simp only [Option.bind_some]
theorem uO (x : Int) (h : W32 x) : cX.f x 131072 524288 1024 true = some (Go.bits .xor .u32 (Go.bits .xor .u32 (rot x 17) (rot x 19)) (x / 1024)) :=
 m9 x 17 19 _ _ _ rfl rfl (by decide) rfl rfl (by decide) (by decide) (by decide) h
theorem uM (x : Int) (h : W32 x) : cX.f x 128 262144 8 true = some (Go.bits .xor .u32 (Go.bits .xor .u32 (rot x 7) (rot x 18)) (x / 8)) :=
 m9 x 7 18 _ _ _ rfl rfl (by decide) rfl rfl (by decide) (by decide) (by decide) h
theorem S_e (x : Int) (h : W32 x) : cX.f x 64 2048 33554432 false = some (Go.bits .xor .u32 (Go.bits .xor .u32 (rot x 6) (rot x 11)) (rot x 25)) :=
 mw x 6 11 25 _ _ _ rfl rfl rfl rfl rfl rfl (by decide) (by decide) (by decide) h
theorem S_a (x : Int) (h : W32 x) : cX.f x 4 8192 4194304 false = some (Go.bits .xor .u32 (Go.bits .xor .u32 (rot x 2) (rot x 13)) (rot x 22)) :=
 mw x 2 13 22 _ _ _ rfl rfl rfl rfl rfl rfl (by decide) (by decide) (by decide) h
/-! the words of a block -/
def hU (s : ByteArray) (i : Nat) : Int := bt s ((4 * i : Nat) : Int) * 16777216 + bt s ((4 * i + 1 : Nat) : Int) * 65536 + bt s ((4 * i + 2 : Nat) : Int) * 256 + bt s ((4 * i + 3 : Nat) : Int)
theorem t0 (s : ByteArray) (i : Nat) : W32 (hU s i) := by
 have h0 := dM s ((4 * i : Nat) : Int)
 have h1 := dM s ((4 * i + 1 : Nat) : Int)
 have h2 := dM s ((4 * i + 2 : Nat) : Int)
 have h3 := dM s ((4 * i + 3 : Nat) : Int)
 unfold hU W32
 omega
def gJ (s : ByteArray) (n : Nat) : List Int := (List.range n).map (hU s)
theorem fL (s : ByteArray) (n : Nat) : (gJ s n).length = n := by simp [gJ]
theorem lR (s : ByteArray) (n : Nat) : gJ s (n + 1) = gJ s n ++ [hU s n] := by simp [gJ, List.range_succ]
theorem td (s : ByteArray) (n : Nat) : ∀ x ∈ gJ s n, W32 x := by
 intro x hx
 obtain ⟨i, _, rfl⟩ := List.mem_map.mp hx
 exact t0 s i
theorem lG (s : ByteArray) (i : Nat) (h : 4 * i + 4 ≤ s.size) (hs : s.size ≤ 4611686018427387904) : eA.f s ((4 * i : Nat) : Int) = some (hU s i) := by
 have e1 : wrap64 (((4 * i : Nat) : Int) + 1) = ((4 * i + 1 : Nat) : Int) := by rw [w64 (by omega) (by omega)]; rfl
 have e2 : wrap64 (((4 * i : Nat) : Int) + 2) = ((4 * i + 2 : Nat) : Int) := by rw [w64 (by omega) (by omega)]; rfl
 have e3 : wrap64 (((4 * i : Nat) : Int) + 3) = ((4 * i + 3 : Nat) : Int) := by rw [w64 (by omega) (by omega)]; rfl
 have h0 := dM s ((4 * i : Nat) : Int)
 have h1 := dM s ((4 * i + 1 : Nat) : Int)
 have h2 := dM s ((4 * i + 2 : Nat) : Int)
 have h3 := dM s ((4 * i + 3 : Nat) : Int)
 unfold eA.f
 rw [e1, e2, e3, Fa (by omega), Fa (by omega), Fa (by omega), Fa (by omega), Fa (by omega), Fa (by omega), Fa (by omega), Fa (by omega)]
 unfold hU
 congr 1
 generalize bt s ((4 * i : Nat) : Int) = b0 at *
 generalize bt s ((4 * i + 1 : Nat) : Int) = b1 at *
 generalize bt s ((4 * i + 2 : Nat) : Int) = b2 at *
 generalize bt s ((4 * i + 3 : Nat) : Int) = b3 at *
 clear e1 e2 e3
 omega
theorem ie (s : ByteArray) (n : Nat) (h : s.size = 4 * n) (hn : n ≤ 1000000) : Ev (fun k => bd.f k s) (gJ s n) := by
 refine Ev.up (g := fun i k => bd.l0 k s (gJ s i) ((4 * i : Nat) : Int)) n ?_ ?_ 0 (Nat.zero_le _)
 ·intro i hi hh
  refine Ev.step (fun k => ?_) hh
  simp only [bd.l0]
  have e4 : wrap64 (((4 * i : Nat) : Int) + 4) = ((4 * (i + 1) : Nat) : Int) := by rw [w64 (by omega) (by omega)]; omega
  rw [e4, Fa (by omega), lG s i (by omega) (by omega)]
  simp only [Option.bind_some]
  rw [Fa (by rw [fL]; omega), lR]
 ·refine Ev.step (f := fun _ => some (gJ s n)) (fun k => ?_) (Ev.now _)
  simp only [bd.l0]
  have e4 : wrap64 (((4 * n : Nat) : Int) + 4) = ((4 * (n + 1) : Nat) : Int) := by rw [w64 (by omega) (by omega)]; omega
  rw [e4, Ga (by omega)]
end Go.Proofs.YtmdlpmddljbkeaaGreatDoor.Pure
