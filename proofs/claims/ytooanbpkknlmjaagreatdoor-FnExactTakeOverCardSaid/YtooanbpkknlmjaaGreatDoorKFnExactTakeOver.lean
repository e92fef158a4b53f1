/- Plain laws that the law FnExactTakeOver rests on. -/
import Derived.Test.YtooanbpkknlmjaaGreatDoorPx14
namespace Go.Proofs.YtooanbpkknlmjaaGreatDoor.Pure
open Go.RowKit YtooanbpkknlmjaaGreatDoorW.PrintWords YtooanbpkknlmjaaGreatDoorW.PrintLast YtooanbpkknlmjaaGreatDoorW.PrintMore YtooanbpkknlmjaaGreatDoor.P YtooanbpkknlmjaaGreatDoor.Kit
set_option linter.unusedVariables false
set_option linter.unusedSimpArgs false

theorem w64 {x : Int} (h1 : -9223372036854775808 ≤ x) (h2 : x ≤ 9223372036854775807) : wrap64 x = x := by unfold wrap64; omega
theorem dv (n : Nat) (h : n < 9223372036854775807) : wrap64 ((n : Int) + 1) = ((n + 1 : Nat) : Int) := by rw [w64 (by omega) (by omega)]; rfl
theorem Ev.pos {α : Type} {c : Prop} [Decidable c] {f g : Nat → Option α} {r : α} (hc : c) (h : Ev f r) : Ev (fun k => if c then f k else g k) r := by
 simpa only [Da hc] using h
theorem Ev.neg {α : Type} {c : Prop} [Decidable c] {f g : Nat → Option α} {r : α} (hc : ¬ c) (h : Ev g r) : Ev (fun k => if c then f k else g k) r := by
 simpa only [Ea hc] using h
theorem Ev.const {α : Type} {o : Option α} {r : α} (h : o = some r) : Ev (fun _ => o) r := ⟨0, fun _ _ => h⟩
theorem Ev.then {α β : Type} {o : Option α} {f : Nat → α → Option β} {a : α} {r : β} (h : o = some a) (k : Ev (fun n => f n a) r) : Ev (fun n => o.bind (f n)) r := by
 subst h; exact k
/-- A loop that gY up: what it answers at the end, it answers from the start. -/
theorem Ev.up {α : Type} {g : Nat → Nat → Option α} {r : α} (n : Nat) (hs : ∀ i, i < n → Ev (g (i + 1)) r → Ev (g i) r) (he : Ev (g n) r) (i : Nat) (hi : i ≤ n) : Ev (g i) r := by
 obtain ⟨d, rfl⟩ : ∃ d, n = i + d := ⟨n - i, by omega⟩
 induction d generalizing i with
 | zero => exact he
 | succ d ih =>
  refine hs i (by omega) (ih (i + 1) ?_ ?_ (by omega))
  ·intro j hj h
   exact hs j (by omega) h
  ·rw [show i + 1 + d = i + (d + 1) by omega]; exact he
/-- A loop that may stop early. -/
theorem Ev.upTo {α : Type} {g : Nat → Nat → Option α} {r : Nat → α} (n : Nat) (hs : ∀ i, i < n → Ev (g (i + 1)) (r (i + 1)) → Ev (g i) (r i)) (he : Ev (g n) (r n)) (i : Nat) (hi : i ≤ n) : Ev (g i) (r i) := by
 obtain ⟨d, rfl⟩ : ∃ d, n = i + d := ⟨n - i, by omega⟩
 induction d generalizing i with
 | zero => exact he
 | succ d ih =>
  refine hs i (by omega) (ih (i + 1) ?_ ?_ (by omega))
  ·intro j hj h
   exact hs j (by omega) h
  ·rw [show i + 1 + d = i + (d + 1) by omega]; exact he
/-- A loop that gY up from a. -/
theorem Ev.upFrom {α : Type} {g : Nat → Nat → Option α} {r : α} (a n : Nat) (hs : ∀ i, a ≤ i → i < n → Ev (g (i + 1)) r → Ev (g i) r) (he : Ev (g n) r) (h : a ≤ n) : Ev (g a) r := by
 have := Ev.up (g := fun i => g (a + i)) (r := r) (n - a) (fun i hi h => hs (a + i) (by omega) (by omega) h) (by simpa only [show a + (n - a) = n by omega] using he) 0 (by omega)
 exact this
/-! lists -/
theorem jK (l : List Int) (i : Nat) : rd l (i : Int) = l.getD i 0 := by simp [rd]
theorem dg (l : List Int) (i : Nat) (h : i < l.length) : rd l (i : Int) = l[i] := by simp [rd, List.getD_eq_getElem?_getD, List.getElem?_eq_getElem h]
theorem nr {α : Type} (p : α → Bool) (l : List α) (i : Nat) (h : i < l.length) : (l.drop i).all p = (p l[i] && (l.drop (i + 1)).all p) := by
 rw [List.drop_eq_getElem_cons h, List.all_cons]
theorem fU {α : Type} (l : List α) (i : Nat) (h : i < l.length) : l.take i ++ [l[i]] = l.take (i + 1) := by simp
theorem kS (a b c : Int) : (if a ≥ b then (some (decide (a ≤ c))) else (some false)) = some (decide (b ≤ a ∧ a ≤ c)) := by
 by_cases h : a ≥ b
 ·rw [Da h]; congr 1; rw [decide_eq_decide]; constructor
  ·intro h2; exact ⟨h, h2⟩
  ·intro h2; exact h2.2
 ·rw [Ea h]; congr 1; symm; rw [decide_eq_false_iff_not]; intro h2; exact h h2.1
theorem nk {α : Type} (l : List α) (d : α) (i : Nat) (h : i < l.length) : (l.take i ++ List.replicate (l.length - i) d).set i l[i] = l.take (i + 1) ++ List.replicate (l.length - (i + 1)) d := by
 apply List.ext_getElem
 ·simp; omega
 ·intro j h1 h2
  simp only [List.getElem_set, List.getElem_append, List.length_take, List.getElem_take, List.getElem_replicate]
  split
  ·subst_vars
   rw [dif_pos (by omega)]
  ·by_cases hj : j < i
   ·rw [dif_pos (by omega), dif_pos (by omega)]
   ·rw [dif_neg (by omega), dif_neg (by omega)]
/-- The first L bytes of S, the least first. -/
def cy (L S : Nat) : List Int := (List.range L).map fun j => ((S / 256 ^ j % 256 : Nat) : Int)
theorem fe (L S : Nat) : (cy L S).length = L := by simp [cy]
theorem eD (L S j : Nat) (h : j < (cy L S).length) : (cy L S)[j] = ((S / 256 ^ j % 256 : Nat) : Int) := by simp [cy]
theorem nF (L : Nat) : cy L 0 = List.replicate L 0 := by
 apply List.ext_getElem
 ·simp [cy]
 ·intro j h1 h2
  rw [eD]; simp
theorem jX (L S : Nat) : cy L S ++ [((S / 256 ^ L % 256 : Nat) : Int)] = cy (L + 1) S := by simp [cy, List.range_succ]
theorem gD (j : Nat) : 256 ^ j = 2 ^ (8 * j) := by rw [Nat.pow_mul]
theorem rr {S P T b : Nat} (hP : 0 < P) (hS : S < P * T) (hT : T ≤ 128) (hb : b ≤ 1) : S / P % 256 + b * T = (S + b * (P * T)) / P % 256 := by
 have hq : S / P < T := Nat.div_lt_of_lt_mul hS
 have hb2 : b * T ≤ T := by
  have := Nat.mul_le_mul_right T hb
  omega
 rw [show b * (P * T) = P * (b * T) from Nat.mul_left_comm .., Nat.add_mul_div_left _ _ hP]
 obtain ⟨q, hq'⟩ : ∃ q, S / P = q := ⟨_, rfl⟩
 obtain ⟨u, hu⟩ : ∃ u, b * T = u := ⟨_, rfl⟩
 rw [hq'] at hq ⊢
 rw [hu] at hb2 ⊢
 rw [Nat.mod_eq_of_lt (show q < 256 by omega), Nat.mod_eq_of_lt (show q + u < 256 by omega)]
/-- Setting a bit above all others. -/
theorem ot (L S m b : Nat) (hS : S < 2 ^ m) (hb : b ≤ 1) :
  (cy L S).set (m / 8) ((((S / 256 ^ (m / 8)) % 256 + b * 2 ^ (m % 8) : Nat)) : Int) = cy L (S + b * 2 ^ m) := by
 have hmm : 2 ^ m = 256 ^ (m / 8) * 2 ^ (m % 8) := by rw [gD, ← Nat.pow_add]; congr 1; omega
 have h7 : 2 ^ (m % 8) ≤ 128 := by
  have : m % 8 ≤ 7 := by omega
  exact Nat.pow_le_pow_right (n := 2) (by omega) this
 apply List.ext_getElem
 ·simp [cy]
 ·intro j h1 h2
  rw [List.getElem_set, eD, eD]
  by_cases hj : m / 8 = j
  ·rw [Da hj]; subst hj
   congr 1
   rw [hmm]
   exact rr (Nat.pow_pos (by omega)) (by rw [← hmm]; exact hS) h7 hb
  ·rw [Ea hj]
   congr 1
   by_cases hlt : j < m / 8
   ·obtain ⟨d, hd⟩ : ∃ d, m / 8 = j + 1 + d := ⟨m / 8 - (j + 1), by omega⟩
    have e : b * 2 ^ m = 256 ^ j * (256 * (256 ^ d * (b * 2 ^ (m % 8)))) := by
     rw [hmm, hd, Nat.pow_add, Nat.pow_add]; simp only [Nat.pow_one, Nat.mul_assoc, Nat.mul_comm, Nat.mul_left_comm]
    rw [e, Nat.add_mul_div_left _ _ (Nat.pow_pos (by omega)), Nat.add_mul_mod_self_left]
   ·have hle : 2 ^ (m + 1) ≤ 256 ^ j := by rw [gD]; exact Nat.pow_le_pow_right (by omega) (by omega)
    rw [Nat.pow_succ] at hle
    have hb2 : b * 2 ^ m ≤ 2 ^ m := by
     have := Nat.mul_le_mul_right (2 ^ m) hb
     omega
    rw [Nat.div_eq_of_lt (by omega), Nat.div_eq_of_lt (by omega)]
/-- Numbers of b bits, side by side, the first lowest. -/
def gn (b : Nat) : List Nat → Nat
 | [] => 0
 | x :: l => x + 2 ^ b * gn b l
theorem mo (b : Nat) (l : List Nat) (x : Nat) : gn b (l ++ [x]) = gn b l + 2 ^ (b * l.length) * x := by
 induction l with
 | nil => simp [gn]
 | cons a l ih =>
  simp only [List.cons_append, gn, ih, List.length_cons, Nat.mul_add, Nat.mul_succ, Nat.pow_add]
  rw [Nat.add_assoc]; congr 2
  rw [← Nat.mul_assoc, Nat.mul_comm (2 ^ b)]
theorem ph (b : Nat) (l : List Nat) (h : ∀ x ∈ l, x < 2 ^ b) : gn b l < 2 ^ (b * l.length) := by
 induction l with
 | nil => simp [gn]
 | cons a l ih =>
  have h1 := h a (List.mem_cons_self ..)
  have h2 := ih fun x hx => h x (List.mem_cons_of_mem _ hx)
  simp only [gn, List.length_cons, Nat.mul_succ, Nat.pow_add]
  have h3 : 2 ^ b * gn b l + 2 ^ b ≤ 2 ^ b * 2 ^ (b * l.length) := by
   rw [← Nat.mul_succ]; exact Nat.mul_le_mul_left _ h2
  rw [Nat.mul_comm (2 ^ (b * l.length))]
  omega
theorem kZ (b : Nat) (l : List Nat) (i : Nat) (h : i < l.length) : gn b (l.take (i + 1)) = gn b (l.take i) + 2 ^ (b * i) * l[i] := by
 rw [← List.take_append_getElem h, mo, List.length_take, Nat.min_eq_left (by omega)]
/-- The dn of S of b bits each are what they are put together again. -/
theorem nD (b S n : Nat) : gn b ((List.range n).map fun i => S / 2 ^ (b * i) % 2 ^ b) = S % 2 ^ (b * n) := by
 induction n with
 | zero => simp [gn, Nat.mod_one]
 | succ n ih =>
  rw [List.range_succ, List.map_append, List.map_cons, List.map_nil, mo, ih, List.length_map, List.length_range, Nat.mul_succ, Nat.pow_add, Nat.mod_mul]
theorem od (b : Nat) (l : List Nat) (h : ∀ x ∈ l, x < 2 ^ b) (i : Nat) (hi : i < l.length) : gn b l / 2 ^ (b * i) % 2 ^ b = l[i] := by
 induction l generalizing i with
 | nil => exact absurd hi (by simp)
 | cons a l ih =>
  have h1 := h a (List.mem_cons_self ..)
  cases i with
  | zero => simp only [gn, Nat.mul_zero, Nat.pow_zero, Nat.div_one, Nat.add_mul_mod_self_left, List.getElem_cons_zero]; exact Nat.mod_eq_of_lt h1
  | succ i =>
   have h2 := ih (fun x hx => h x (List.mem_cons_of_mem _ hx)) i (by simpa using hi)
   simp only [gn, List.getElem_cons_succ]
   rw [Nat.mul_succ, Nat.add_comm (b * i), Nat.pow_add, ← Nat.div_div_eq_div_mul, Nat.add_mul_div_left _ _ (Nat.two_pow_pos b), Nat.div_eq_of_lt h1, Nat.zero_add]
   exact h2
/-- The number that bytes write. -/
def dr (s : ByteArray) : Nat := gn 8 (s.data.toList.map UInt8.toNat)
theorem o9 (s : ByteArray) : dr s < 256 ^ s.size := by
 have h := ph 8 (s.data.toList.map UInt8.toNat) (by
  intro x hx
  obtain ⟨c, _, rfl⟩ := List.mem_map.mp hx
  exact c.toNat_lt)
 rw [List.length_map, Array.length_toList, Nat.pow_mul] at h
 exact h
theorem mJ (s : ByteArray) (j : Nat) (h : j < s.size) : bt s (j : Int) = ((dr s / 256 ^ j % 256 : Nat) : Int) := by
 have h2 := od 8 (s.data.toList.map UInt8.toNat) (by
  intro x hx
  obtain ⟨c, _, rfl⟩ := List.mem_map.mp hx
  exact c.toNat_lt) j (by simpa using h)
 rw [Nat.pow_mul] at h2
 unfold dr
 rw [show (256 : Nat) = 2 ^ 8 from rfl, h2]
 unfold bt
 rw [dif_pos (by simpa using h)]
 simp
 rfl
theorem i9 (xs : List Int) (i : Nat) (h : i < (strOfNums xs).size) : (strOfNums xs)[i] = UInt8.ofNat (xs[i]'(by simpa [strOfNums_size] using h)).toNat := by
 simp [strOfNums, ByteArray.getElem_eq_getElem_data]
theorem fA {s t : ByteArray} (h : s.data.toList = t.data.toList) : s = t := by
 cases s; cases t; congr 1; exact Array.toList_inj.mp h
theorem mP {s t : ByteArray} : s.toList = t.toList ↔ s = t := by
 constructor
 ·intro h
  refine fA ?_
  simpa [← ByteArray.toList_eq] using h
 ·rintro rfl; rfl
theorem lR (s : ByteArray) : strOfNums (cy s.size (dr s)) = s := by
 refine fA ?_
 rw [strOfNums_data]
 apply List.ext_getElem
 ·simp [cy]
 ·intro j h1 h2
  have hj : j < s.size := by simpa [cy] using h1
  have h3 := mJ s j hj
  rw [List.getElem_map, eD, ← h3]
  unfold bt
  rw [dif_pos (by simpa using hj)]
  simp
  rfl
theorem pE {L S T : Nat} (hS : S < 256 ^ L) (hT : T < 256 ^ L) (h : strOfNums (cy L S) = strOfNums (cy L T)) : S = T := by
 have key : ∀ L S T : Nat, S < 256 ^ L → T < 256 ^ L → (∀ j, j < L → S / 256 ^ j % 256 = T / 256 ^ j % 256) → S = T := by
  intro L
  induction L with
  | zero => intro S T h1 h2 _; simp at h1 h2; omega
  | succ L ih =>
   intro S T h1 h2 h3
   have e0 := h3 0 (by omega)
   simp only [Nat.pow_zero, Nat.div_one] at e0
   have e1 := ih (S / 256) (T / 256) (by rw [Nat.pow_succ] at h1; omega) (by rw [Nat.pow_succ] at h2; omega) (fun j hj => by
    have := h3 (j + 1) (by omega)
    rw [Nat.pow_succ, Nat.mul_comm, ← Nat.div_div_eq_div_mul, ← Nat.div_div_eq_div_mul] at this
    exact this)
   omega
 refine key L S T hS hT fun j hj => ?_
 have h4 := congrArg (fun s : ByteArray => s.data.toList[j]?) h
 simp only [strOfNums_data] at h4
 rw [List.getElem?_eq_getElem (by simpa [cy] using hj), List.getElem?_eq_getElem (by simpa [cy] using hj), List.getElem_map, List.getElem_map, eD, eD] at h4
 injection h4 with h4
 have h5 := congrArg UInt8.toNat h4
 rw [Int.toNat_natCast, Int.toNat_natCast] at h5
 simpa using h5
def EqQ (x y : Int) : Prop := x % 3329 = y % 3329
theorem EqQ.refl (x : Int) : EqQ x x := rfl
theorem EqQ.of {x y : Int} (h : x = y) : EqQ x y := by rw [h]; exact EqQ.refl y
theorem EqQ.symm {x y : Int} (h : EqQ x y) : EqQ y x := Eq.symm h
theorem EqQ.trans {x y z : Int} (h : EqQ x y) (k : EqQ y z) : EqQ x z := Eq.trans h k
theorem EqQ.mod (x : Int) : EqQ (x % 3329) x := Int.emod_emod_of_dvd _ (Int.dvd_refl _)
theorem EqQ.neg {x y : Int} (h : EqQ x y) : EqQ (-x) (-y) := by unfold EqQ at *; omega
theorem EqQ.mul {x y z w : Int} (h : EqQ x y) (k : EqQ z w) : EqQ (x * z) (y * w) := by
 unfold EqQ at *
 rw [Int.mul_emod, h, k, ← Int.mul_emod]
theorem EqQ.eqm {x y : Int} (h : EqQ x y) : x % 3329 = y % 3329 := h
theorem fD (x : Int) : 0 ≤ x % 3329 ∧ x % 3329 ≤ 3328 := by omega
theorem fI (a b c : Int) : aY.f a b c = some (decide (b ≤ a ∧ a ≤ c)) := kS a b c
theorem mt (a b c : Int) : bV.f a b c = some (decide (b ≤ a ∧ a ≤ c)) := kS a b c
theorem r8 {i : Nat} (h : i ≤ 62) : (2 : Int) ^ i ≤ 4611686018427387904 := by
 have := Nat.pow_le_pow_right (n := 2) (by omega) h
 have h2 : ((2 ^ i : Nat) : Int) ≤ ((2 ^ 62 : Nat) : Int) := Int.ofNat_le.mpr this
 simpa using h2
theorem mX (i : Nat) : (0 : Int) < 2 ^ i := Int.pow_pos (by omega)
theorem fa (n : Int) (h : n ≤ 62) : Ev (fun k => au.f k n) (2 ^ n.toNat) := by
 unfold au.f
 refine Ev.up (g := fun i k => au.l0 k n (2 ^ i) (i : Int)) (r := (2 : Int) ^ n.toNat) n.toNat ?_ ?_ 0 (by omega)
 ·intro i hi h'
  refine Ev.step (fun k => ?_) h'
  simp only [au.l0]
  have h1 := r8 (i := i + 1) (by omega)
  have h2 := mX i
  rw [Int.pow_succ] at h1
  rw [Da (by omega), dv i (by omega), w64 (by omega) (by omega), Int.pow_succ, Int.mul_comm]
 ·refine Ev.step (f := fun _ => some ((2 : Int) ^ n.toNat)) (fun k => ?_) (Ev.now _)
  simp only [au.l0]
  rw [Ea (by omega)]
theorem ny (x n : Int) (h : n ≤ 64) : shl .i64 x n = wrap64 (x * 2 ^ n.toNat) := by
 unfold shl
 rw [bv, show min n.toNat IntKind.i64.bits = n.toNat by simp [IntKind.bits]; omega]
theorem sh (x n : Int) (h : n ≤ 64) : shr .i64 x n = x / 2 ^ n.toNat := by
 unfold shr
 rw [show min n.toNat IntKind.i64.bits = n.toNat by simp [IntKind.bits]; omega]
def eG (x d : Int) : Int := if (0 ≤ x ∧ x ≤ 3328) ∧ 1 ≤ d ∧ d ≤ 11 then (2 ^ d.toNat * x + 1664) / 3329 % 2 ^ d.toNat else 0
def dd (y d : Int) : Int := if (1 ≤ d ∧ d ≤ 11) ∧ 0 ≤ y ∧ y ≤ 2 ^ d.toNat - 1 then (3329 * y + 2 ^ (d - 1).toNat) / 2 ^ d.toNat else 0
theorem iy {x d : Int} (hx : 0 ≤ x ∧ x ≤ 3328) (hd : 1 ≤ d ∧ d ≤ 11) : eG x d = (2 ^ d.toNat * x + 1664) / 3329 % 2 ^ d.toNat := Da ⟨hx, hd⟩
theorem fE {x d : Int} (h : ¬ ((0 ≤ x ∧ x ≤ 3328) ∧ 1 ≤ d ∧ d ≤ 11)) : eG x d = 0 := Ea h
theorem j8 {y d : Int} (hd : 1 ≤ d ∧ d ≤ 11) (hy : 0 ≤ y ∧ y ≤ 2 ^ d.toNat - 1) : dd y d = (3329 * y + 2 ^ (d - 1).toNat) / 2 ^ d.toNat := Da ⟨hd, hy⟩
theorem f7 {y d : Int} (h : ¬ ((1 ≤ d ∧ d ≤ 11) ∧ 0 ≤ y ∧ y ≤ 2 ^ d.toNat - 1)) : dd y d = 0 := Ea h
theorem d11 {d : Int} (h1 : 1 ≤ d) (h2 : d ≤ 11) : d = 1 ∨ d = 2 ∨ d = 3 ∨ d = 4 ∨ d = 5 ∨ d = 6 ∨ d = 7 ∨ d = 8 ∨ d = 9 ∨ d = 10 ∨ d = 11 := by omega
theorem m9 {d : Int} (h1 : 1 ≤ d) (h2 : d ≤ 11) : (2 : Int) ≤ 2 ^ d.toNat ∧ (2 : Int) ^ d.toNat ≤ 2048 := by
 rcases d11 h1 h2 with rfl | rfl | rfl | rfl | rfl | rfl | rfl | rfl | rfl | rfl | rfl <;> decide
theorem nL {d : Int} (h1 : 1 ≤ d) : (2 : Int) ^ d.toNat = 2 * 2 ^ (d - 1).toNat := by
 rw [show d.toNat = (d - 1).toNat + 1 by omega, Int.pow_succ, Int.mul_comm]
theorem lQ {t x : Int} (ht0 : 0 ≤ t) (ht : t ≤ 2048) (h0 : 0 ≤ x) (h1 : x ≤ 3328) : 0 ≤ t * x ∧ t * x ≤ 6815744 := by
 refine ⟨Int.mul_nonneg ht0 h0, ?_⟩
 have := Int.mul_le_mul ht h1 h0 (by omega)
 omega
theorem o1 {t x : Int} (h0 : 0 ≤ t * x) (h1 : t * x ≤ 6815744) : Int.tmod (wrap64 (Int.tdiv (wrap64 (t * x + 1664)) 3329)) t = (t * x + 1664) / 3329 % t := by
 rw [w64 (x := t * x + 1664) (by omega) (by omega), Int.tdiv_eq_ediv_of_nonneg (by omega), w64 (x := (t * x + 1664) / 3329) (by omega) (by omega), Int.tmod_eq_emod_of_nonneg (by omega)]
theorem qU {a y t : Int} (ht : 2 ≤ t) (h0 : 0 ≤ 3329 * y + a) (h1 : 3329 * y + a ≤ 1000000000) (hy : -1000000 ≤ y ∧ y ≤ 1000000) : wrap64 (Int.tdiv (wrap64 ((wrap64 (3329 * y)) + a)) t) = (3329 * y + a) / t := by
 rw [w64 (x := 3329 * y) (by omega) (by omega), w64 (x := 3329 * y + a) (by omega) (by omega), Int.tdiv_eq_ediv_of_nonneg (by omega)]
 have h2 := Int.ediv_nonneg (a := 3329 * y + a) (b := t) (by omega) (by omega)
 have h3 := Int.ediv_le_self (a := 3329 * y + a) t (by omega)
 exact w64 (by omega) (by omega)
theorem kE (x d : Int) : Ev (fun k => bD.f k x d) (eG x d) := by
 unfold bD.f
 simp only [fI, Option.bind_some]
 by_cases hx : 0 ≤ x ∧ x ≤ 3328
 ·refine Ev.pos (by simpa using hx) ?_
  by_cases hd : 1 ≤ d ∧ d ≤ 11
  ·rw [iy hx hd]
   have hb := m9 hd.1 hd.2
   have hm := lQ (by omega) hb.2 hx.1 hx.2
   refine Ev.step (f := fun k => (au.f k d).bind fun t103 => ((au.f k d).bind fun t104 => (if t104 = 0 then (none) else (some (Int.tmod (wrap64 (Int.tdiv (wrap64 ((wrap64 (t103 * x)) + 1664)) 3329)) t104))))) (fun k => ?_) ?_
   ·simp only [bD.j0]
    rw [Ea (by simpa using hd)]
   ·refine Ev.bind (fa d (by omega)) (Ev.bind (fa d (by omega)) (Ev.neg (by omega) (Ev.const ?_)))
    rw [w64 (x := 2 ^ d.toNat * x) (by omega) (by omega), o1 (by omega) (by omega)]
  ·rw [fE (fun h => hd h.2)]
   refine Ev.step (f := fun _ => some 0) (fun k => ?_) (Ev.now _)
   simp only [bD.j0]
   rw [Da (by rw [xa hd]; rfl)]
 ·rw [fE (fun h => hx h.1)]
  refine Ev.neg (by simpa using hx) ?_
  refine Ev.step (f := fun _ => some 0) (fun k => ?_) (Ev.now _)
  simp only [bD.j0, if_true]
theorem kC (x d : Int) : eh.f x d = some (eG x d) := by
 unfold eh.f
 simp only [mt, Option.bind_some]
 by_cases hx : 0 ≤ x ∧ x ≤ 3328
 ·rw [Da (by simpa using hx)]
  by_cases hd : 1 ≤ d ∧ d ≤ 11
  ·have hb := m9 hd.1 hd.2
   have hm := lQ (by omega) hb.2 hx.1 hx.2
   rw [iy hx hd, Da (wa hd), Da (by omega), ny _ _ (by omega), ny _ _ (by omega), Int.one_mul, Int.mul_comm x,
    w64 (x := 2 ^ d.toNat) (by omega) (by omega), Ea (by omega), w64 (x := 2 ^ d.toNat * x) (by omega) (by omega), o1 (by omega) (by omega)]
  ·rw [fE (fun h => hd h.2), Ea (by rw [xa hd]; decide)]
 ·rw [fE (fun h => hx h.1), Ea (by rw [xa hx]; decide)]
theorem hU (y d : Int) : Ev (fun k => bs.f k y d) (dd y d) := by
 unfold bs.f
 simp only [fI, Option.bind_some]
 by_cases hd : 1 ≤ d ∧ d ≤ 11
 ·have hb := m9 hd.1 hd.2
  have hh := nL hd.1
  refine Ev.pos (by simpa using hd) (Ev.bind (fa d (by omega)) ?_)
  rw [w64 (by omega) (by omega)]
  by_cases hy : 0 ≤ y ∧ y ≤ 2 ^ d.toNat - 1
  ·rw [j8 hd hy]
   refine Ev.step (f := fun k => (au.f k (wrap64 (d - 1))).bind fun t112 => ((au.f k d).bind fun t113 => (if t113 = 0 then (none) else (some (wrap64 (Int.tdiv (wrap64 ((wrap64 (3329 * y)) + t112)) t113)))))) (fun k => ?_) ?_
   ·simp only [bs.j0]
    rw [Ea (by simpa using hy)]
   ·rw [w64 (x := d - 1) (by omega) (by omega)]
    refine Ev.bind (fa (d - 1) (by omega)) (Ev.bind (fa d (by omega)) (Ev.neg (by omega) (Ev.const ?_)))
    rw [qU (by omega) (by omega) (by omega) (by omega)]
  ·rw [f7 (fun h => hy h.2)]
   refine Ev.step (f := fun _ => some 0) (fun k => ?_) (Ev.now _)
   simp only [bs.j0]
   rw [Da (by rw [xa hy]; rfl)]
 ·rw [f7 (fun h => hd h.1)]
  refine Ev.neg (by simpa using hd) ?_
  refine Ev.step (f := fun _ => some 0) (fun k => ?_) (Ev.now _)
  simp only [bs.j0, if_true]
theorem hH (y d : Int) : dA.f y d = some (dd y d) := by
 unfold dA.f
 simp only [mt, Option.bind_some]
 by_cases hd : 1 ≤ d ∧ d ≤ 11
 ·have hb := m9 hd.1 hd.2
  have hh := nL hd.1
  rw [Da (by simpa using hd), Da (by omega), ny 1 d (by omega), Int.one_mul, w64 (x := 2 ^ d.toNat) (by omega) (by omega), w64 (x := 2 ^ d.toNat - 1) (by omega) (by omega), w64 (x := d - 1) (by omega) (by omega)]
  by_cases hy : 0 ≤ y ∧ y ≤ 2 ^ d.toNat - 1
  ·rw [j8 hd hy, Da (wa hy), Da (by omega), ny 1 (d - 1) (by omega), sh _ d (by omega), Int.one_mul, w64 (x := 2 ^ (d - 1).toNat) (by omega) (by omega), w64 (x := 3329 * y) (by omega) (by omega), w64 (by omega) (by omega)]
  ·rw [f7 (fun h => hy h.2), Ea (by rw [xa hy]; decide)]
 ·rw [f7 (fun h => hd h.1), Ea (by rw [xa hd]; decide)]
def inQ (x : Int) : Bool := decide (0 ≤ x ∧ x ≤ 3328)
def dm (l : List Int) : Bool := decide (l.length = 256) && l.all inQ
theorem ob {l : List Int} (h : dm l = true) : l.length = 256 := by
 unfold dm at h; rw [Bool.and_eq_true] at h; exact of_decide_eq_true h.1
theorem oh {l : List Int} (h : dm l = true) {x : Int} (hx : x ∈ l) : 0 ≤ x ∧ x ≤ 3328 := by
 unfold dm at h; rw [Bool.and_eq_true] at h
 exact of_decide_eq_true (List.all_eq_true.mp h.2 x hx)
theorem ow {l : List Int} (h : dm l = true) (i : Nat) (hi : i < l.length) : 0 ≤ l[i] ∧ l[i] ≤ 3328 := oh h (List.getElem_mem hi)
theorem pz {l : List Int} (h : l.length = 256) (hx : ∀ x ∈ l, 0 ≤ x ∧ x ≤ 3328) : dm l = true := by
 unfold dm; rw [Bool.and_eq_true]
 exact ⟨wa h, List.all_eq_true.mpr fun x hm => wa (hx x hm)⟩
theorem bS (l : List Int) : Ev (fun k => ao.f k l) (dm l) := by
 unfold ao.f dm
 by_cases hl : l.length = 256
 ·refine Ev.pos (by omega) ?_
  rw [wa hl, Bool.true_and]
  refine Ev.upTo (g := fun i k => ao.l0 k l (i : Int)) (r := fun i => (l.drop i).all inQ) l.length ?_ ?_ 0 (by omega)
  ·intro i hi h
   simp only [nr inQ l i hi]
   cases hb : inQ l[i] with
   | true =>
    rw [Bool.true_and]
    refine Ev.step (fun k => ?_) h
    simp only [ao.l0, fI, Option.bind_some]
    rw [Da (by omega), Da (by omega), dg l i hi, Da (show decide (0 ≤ l[i] ∧ l[i] ≤ 3328) = true from hb), dv i (by omega)]
   | false =>
    rw [Bool.false_and]
    refine Ev.step (f := fun _ => some false) (fun k => ?_) (Ev.now _)
    simp only [ao.l0, fI, Option.bind_some]
    rw [Da (by omega), Da (by omega), dg l i hi, Ea (by unfold inQ at hb; rw [hb]; decide)]
  ·refine Ev.step (f := fun _ => some ((l.drop l.length).all inQ)) (fun k => ?_) (Ev.now _)
   simp only [ao.l0]
   rw [Ea (by omega)]
   simp
 ·refine Ev.neg (by omega) ?_
  rw [xa hl, Bool.false_and]
  exact Ev.now _
theorem bT (l : List Int) (hl : l.length ≤ 35184372088832) : Ev (fun k => ax.f k l) (dm l) := by
 unfold ax.f dm
 have h := Ev.upTo (g := fun i k => ax.l0 k l l (l.length : Int) (i : Int)) (r := fun i => decide (l.length = 256) && (l.drop i).all inQ) l.length ?_ ?_ 0 (by omega)
 ·simpa using h
 ·intro i hi h
  simp only [nr inQ l i hi]
  cases hb : inQ l[i] with
  | true =>
   rw [Bool.true_and]
   refine Ev.step (fun k => ?_) h
   simp only [ax.l0, mt, Option.bind_some]
   rw [Da (by omega), Da (by omega), Da (by omega), dg l i hi, Da (show decide (0 ≤ l[i] ∧ l[i] ≤ 3328) = true from hb), dv i (by omega)]
  | false =>
   rw [Bool.false_and, Bool.and_false]
   refine Ev.step (f := fun _ => some false) (fun k => ?_) (Ev.now _)
   simp only [ax.l0, mt, Option.bind_some]
   rw [Da (by omega), Da (by omega), Da (by omega), dg l i hi, Ea (by unfold inQ at hb; rw [hb]; decide)]
 ·refine Ev.step (f := fun _ => some (decide (l.length = 256) && (l.drop l.length).all inQ)) (fun k => ?_) (Ev.now _)
  simp only [ax.l0]
  rw [Ea (by omega)]
  simp
  by_cases h : l.length = 256
  ·rw [wa h, h]; rfl
  ·rw [xa h]; rw [beq_eq_false_iff_ne]; omega
def vec (f : Nat → Int) : List Int := (List.range 256).map f
theorem bc (f : Nat → Int) : (vec f).length = 256 := by simp [vec]
theorem fp (f : Nat → Int) (i : Nat) (h : i < (vec f).length) : (vec f)[i] = f i := by simp [vec]
theorem dt (f : Nat → Int) (i : Nat) (h : i < 256) : rd (vec f) (i : Int) = f i := by rw [dg _ _ (by rw [bc]; exact h), fp]
theorem dD {f g : Nat → Int} (h : ∀ i, i < 256 → f i = g i) : vec f = vec g := by
 apply List.ext_getElem
 ·rw [bc, bc]
 ·intro i h1 h2
  rw [fp, fp]
  exact h i (by rw [bc] at h1; exact h1)
theorem fm (f : Nat → Int) (n : Nat) (v : Int) : (vec f).set n v = vec fun i => if i = n then v else f i := by
 apply List.ext_getElem
 ·rw [List.length_set, bc, bc]
 ·intro i h1 h2
  rw [List.getElem_set, fp, fp]
  by_cases h : n = i
  ·rw [Da h, Da h.symm]
  ·rw [Ea h, Ea (fun e => h e.symm)]
theorem r5 {l : List Int} (h : l.length = 256) : l = vec fun i => rd l i := by
 apply List.ext_getElem
 ·rw [bc, h]
 ·intro i h1 h2
  rw [fp, dg l i h1]
theorem gG (d : Int) : List.replicate 256 d = vec fun _ => d := by
 apply List.ext_getElem
 ·rw [bc, List.length_replicate]
 ·intro i h1 h2
  rw [fp, List.getElem_replicate]
theorem fd {f : Nat → Int} (h : ∀ i, i < 256 → 0 ≤ f i ∧ f i ≤ 3328) : dm (vec f) = true := by
 refine pz (bc f) fun x hx => ?_
 obtain ⟨i, hi, rfl⟩ := List.mem_map.mp hx
 exact h i (List.mem_range.mp hi)
theorem ol {f : Nat → Int} (h : dm (vec f) = true) (i : Nat) (hi : i < 256) : 0 ≤ f i ∧ f i ≤ 3328 := by
 have := ow h i (by rw [bc]; exact hi)
 rwa [fp] at this
/-- A right polynomial is 256 numbers in their range. -/
theorem pJ {l : List Int} (h : dm l = true) : ∃ f, l = vec f ∧ ∀ i, i < 256 → 0 ≤ f i ∧ f i ≤ 3328 := by
 have e := r5 (ob h)
 refine ⟨_, e, fun i hi => ?_⟩
 rw [e] at h
 exact ol h i hi
/-- The same, each place 0 beyond the last. -/
theorem fu {l : List Int} (h : dm l = true) : ∃ f, l = vec f ∧ ∀ i, 0 ≤ f i ∧ f i ≤ 3328 := by
 obtain ⟨f, rfl, hf⟩ := pJ h
 refine ⟨fun i => if i < 256 then f i else 0, dD fun i hi => (Da hi).symm, fun i => ?_⟩
 show 0 ≤ (if i < 256 then f i else 0) ∧ (if i < 256 then f i else 0) ≤ 3328
 split
 ·exact hf i ‹_›
 ·omega
theorem fV (n : Int) (h1 : -9223372036854775808 ≤ n) (h2 : n ≤ 9223372036854775807) : bW.f n = some (n % 3329) := by
 unfold bW.f
 congr 1
 by_cases h : 0 ≤ n
 ·rw [Int.tmod_eq_emod_of_nonneg h, w64 (by omega) (by omega), Int.tmod_eq_emod_of_nonneg (by omega)]
  omega
 ·have e : Int.tmod n 3329 = -((-n) % 3329) := by
   have := Int.neg_tmod (-n) 3329
   rw [Int.neg_neg] at this
   rw [this, Int.tmod_eq_emod_of_nonneg (by omega)]
  rw [e, w64 (by omega) (by omega), Int.tmod_eq_emod_of_nonneg (by omega)]
  omega
theorem fB {x y : Int} (hx : 0 ≤ x ∧ x ≤ 3328) (hy : 0 ≤ y ∧ y ≤ 3328) : 0 ≤ x * y ∧ x * y ≤ 11075584 := by
 refine ⟨Int.mul_nonneg hx.1 hy.1, ?_⟩
 have := Int.mul_le_mul hx.2 hy.2 hy.1 (by omega)
 omega
theorem kB (a b : Nat → Int) (ha : ∀ i, 0 ≤ a i ∧ a i ≤ 3328) (hb : ∀ i, 0 ≤ b i ∧ b i ≤ 3328) : Ev (fun k => bK.f k (vec a) (vec b)) (vec fun i => (a i + b i) % 3329) := by
 have key : Ev (fun k => ah.f k (vec a) (vec b)) (vec fun i => (a i + b i) % 3329) := by
  unfold ah.f
  have oka := fd (f := a) fun i _ => ha i
  have okb := fd (f := b) fun i _ => hb i
  have la := bc a
  have lb := bc b
  refine Ev.bind (oka ▸ bT (vec a) (by omega)) (Ev.pos rfl (Ev.bind (okb ▸ bT (vec b) (by omega)) ?_))
  refine Ev.step (f := fun k => ah.l0 k (vec a) (vec b) (List.replicate 256 0) ((256 : Nat) : Int) 0) (fun k => ?_) ?_
  ·simp only [ah.j0, Option.bind_some]
   rw [Ea (by decide), Da (by omega), List.length_replicate]
  ·rw [gG]
   have key := Ev.up (g := fun i k => ah.l0 k (vec a) (vec b) (vec fun n => if n < i then (a n + b n) % 3329 else 0) ((256 : Nat) : Int) (i : Int)) (r := vec fun i => (a i + b i) % 3329) 256 ?_ ?_ 0 (by omega)
   ·have e : (vec fun _ => (0 : Int)) = vec fun n => if n < 0 then (a n + b n) % 3329 else 0 := dD fun n _ => by rw [Ea (by omega)]
    rw [e]; exact key
   ·intro i hi h
    refine Ev.step (fun k => ?_) h
    have h1 := ha i
    have h2 := hb i
    simp only [ah.l0, dS.f, Option.bind_some]
    rw [Da (by omega), Da (by omega), Da (by omega), Da (by omega), dt a i hi, dt b i hi, w64 (x := a i + b i) (by omega) (by omega), fV _ (by omega) (by omega), Option.bind_some, Da (by rw [bc]; omega), Int.toNat_natCast, fm, dv i (by omega)]
    have e : (vec fun n => if n = i then (a i + b i) % 3329 else if n < i then (a n + b n) % 3329 else 0) = vec fun n => if n < i + 1 then (a n + b n) % 3329 else 0 := by
     refine dD fun n _ => ?_
     by_cases h1 : n = i
     ·subst h1; rw [Da rfl, Da (by omega)]
     ·rw [Ea h1]
      by_cases h2 : n < i
      ·rw [Da h2, Da (by omega)]
      ·rw [Ea h2, Ea (by omega)]
    rw [e]
   ·refine Ev.step (f := fun _ => some (vec fun i => (a i + b i) % 3329)) (fun k => ?_) (Ev.now _)
    simp only [ah.l0]
    rw [Ea (by omega)]
    exact congrArg some (dD fun n hn => Da hn)
 unfold bK.f
 exact Ev.bind key (Ev.now _)
theorem kv (a b : Nat → Int) (ha : ∀ i, 0 ≤ a i ∧ a i ≤ 3328) (hb : ∀ i, 0 ≤ b i ∧ b i ≤ 3328) : Ev (fun k => cp.f k (vec a) (vec b)) (vec fun i => (a i - b i) % 3329) := by
 have key : Ev (fun k => ag.f k (vec a) (vec b)) (vec fun i => (a i - b i) % 3329) := by
  unfold ag.f
  have oka := fd (f := a) fun i _ => ha i
  have okb := fd (f := b) fun i _ => hb i
  have la := bc a
  have lb := bc b
  refine Ev.bind (oka ▸ bT (vec a) (by omega)) (Ev.pos rfl (Ev.bind (okb ▸ bT (vec b) (by omega)) ?_))
  refine Ev.step (f := fun k => ag.l0 k (vec a) (vec b) (List.replicate 256 0) ((256 : Nat) : Int) 0) (fun k => ?_) ?_
  ·simp only [ag.j0, Option.bind_some]
   rw [Ea (by decide), Da (by omega), List.length_replicate]
  ·rw [gG]
   have key := Ev.up (g := fun i k => ag.l0 k (vec a) (vec b) (vec fun n => if n < i then (a n - b n) % 3329 else 0) ((256 : Nat) : Int) (i : Int)) (r := vec fun i => (a i - b i) % 3329) 256 ?_ ?_ 0 (by omega)
   ·have e : (vec fun _ => (0 : Int)) = vec fun n => if n < 0 then (a n - b n) % 3329 else 0 := dD fun n _ => by rw [Ea (by omega)]
    rw [e]; exact key
   ·intro i hi h
    refine Ev.step (fun k => ?_) h
    have h1 := ha i
    have h2 := hb i
    simp only [ag.l0, dT.f, Option.bind_some]
    rw [Da (by omega), Da (by omega), Da (by omega), Da (by omega), dt a i hi, dt b i hi, w64 (x := a i - b i) (by omega) (by omega), fV _ (by omega) (by omega), Option.bind_some, Da (by rw [bc]; omega), Int.toNat_natCast, fm, dv i (by omega)]
    have e : (vec fun n => if n = i then (a i - b i) % 3329 else if n < i then (a n - b n) % 3329 else 0) = vec fun n => if n < i + 1 then (a n - b n) % 3329 else 0 := by
     refine dD fun n _ => ?_
     by_cases h1 : n = i
     ·subst h1; rw [Da rfl, Da (by omega)]
     ·rw [Ea h1]
      by_cases h2 : n < i
      ·rw [Da h2, Da (by omega)]
      ·rw [Ea h2, Ea (by omega)]
    rw [e]
   ·refine Ev.step (f := fun _ => some (vec fun i => (a i - b i) % 3329)) (fun k => ?_) (Ev.now _)
    simp only [ag.l0]
    rw [Ea (by omega)]
    exact congrArg some (dD fun n hn => Da hn)
 unfold cp.f
 exact Ev.bind key (Ev.now _)
def kn (l : List Int) : List Nat := l.map Int.toNat
theorem il (l : List Int) : (kn l).length = l.length := by simp [kn]
def fl (b : Nat) (l : List Int) : ByteArray := strOfNums (cy ((l.length * b + 7) / 8) (gn b (kn l)))
def hJ (b : Nat) (x : Int) : Bool := decide (0 ≤ x ∧ x ≤ 2 ^ b - 1)
def o5 (l : List Int) (b : Int) : ByteArray × Bool :=
 if (1 ≤ b ∧ b ≤ 12) ∧ l.all (hJ b.toNat) = true then (fl b.toNat l, true) else (⟨#[]⟩, false)
theorem ql {b : Nat} {l : List Int} (h : l.all (hJ b) = true) : ∀ x ∈ kn l, x < 2 ^ b := by
 intro x hx
 obtain ⟨y, hy, rfl⟩ := List.mem_map.mp hx
 have h2 := of_decide_eq_true (List.all_eq_true.mp h y hy)
 have h3 : ((2 ^ b : Nat) : Int) = (2 : Int) ^ b := by simp
 omega
/-- The first i numbers, as one. -/
def eq (b : Nat) (l : List Int) (i : Nat) : Nat := gn b ((kn l).take i)
theorem jU (b : Nat) (l : List Int) (i : Nat) (h : i < l.length) : eq b l (i + 1) = eq b l i + 2 ^ (b * i) * l[i].toNat := by
 unfold eq
 rw [kZ b (kn l) i (by rw [il]; exact h)]
 simp [kn]
theorem nb {b : Nat} {l : List Int} (h : l.all (hJ b) = true) (i : Nat) (hi : i ≤ l.length) : eq b l i < 2 ^ (b * i) := by
 have := ph b ((kn l).take i) fun x hx => ql h x (List.mem_of_mem_take hx)
 rw [List.length_take, il, Nat.min_eq_left hi] at this
 exact this
theorem nv (b : Nat) (l : List Int) : eq b l l.length = gn b (kn l) := by
 unfold eq; rw [List.take_of_length_le (by rw [il]; exact Aa _)]
theorem oY {b : Nat} {l : List Int} (h : l.all (hJ b) = true) (i : Nat) (hi : i < l.length) : ∃ n : Nat, l[i] = (n : Int) ∧ n < 2 ^ b := by
 have h2 := of_decide_eq_true (List.all_eq_true.mp h l[i] (List.getElem_mem hi))
 have h3 : ((2 ^ b : Nat) : Int) = (2 : Int) ^ b := by simp
 exact ⟨l[i].toNat, by omega, by omega⟩
theorem kW (m c : Nat) : Int.tdiv (m : Int) (c : Int) = ((m / c : Nat) : Int) := by
 rw [Int.tdiv_eq_ediv_of_nonneg (by omega)]; rfl
theorem lz (m c : Nat) : Int.tmod (m : Int) (c : Int) = ((m % c : Nat) : Int) := by
 rw [Int.tmod_eq_emod_of_nonneg (by omega)]; rfl
theorem o7 (m : Nat) : Int.tdiv (m : Int) 8 = ((m / 8 : Nat) : Int) := kW m 8
theorem rF (m : Nat) : Int.tmod (m : Int) 8 = ((m % 8 : Nat) : Int) := lz m 8
theorem g7 (m : Nat) (h : m ≤ 9223372036854775807) : wrap64 (m : Int) = (m : Int) := w64 (by omega) (by omega)
theorem nH (n : Nat) (h : n < 2 ^ 62) : Go.bits .and .i64 (n : Int) 1 = ((n % 2 : Nat) : Int) := by
 have := bits_mask .i64 63 (by decide) (fun n h0 h1 => by rw [IntKind.wrap_i64]; omega) 1 (by decide) (n : Int) (by omega) (by
  have : ((2 ^ 62 : Nat) : Int) = 2 ^ 62 := by simp
  omega)
 simpa using this
theorem oO (n : Nat) (h : n < 256) : Go.bits .and .u8 (n : Int) 1 = ((n % 2 : Nat) : Int) := by
 have := bits_mask .u8 8 (by decide) wraps_u8 1 (by decide) (n : Int) (by omega) (by omega)
 simpa using this
theorem pq (a t b : Nat) (ha : a < 2 ^ t) (ht : t ≤ 7) (hb : b ≤ 1) : Go.bits .or .u8 (a : Int) ((b * 2 ^ t : Nat) : Int) = ((a + b * 2 ^ t : Nat) : Int) := by
 have h7 : 2 ^ t ≤ 128 := Nat.pow_le_pow_right (n := 2) (by omega) ht
 have hb2 : b * 2 ^ t ≤ 2 ^ t := by
  have := Nat.mul_le_mul_right (2 ^ t) hb
  omega
 rw [(bits_nat .u8 8 (by decide) wraps_u8 a (b * 2 ^ t) (by omega) (by omega)).2, Nat.or_comm, Nat.mul_comm b, ← Nat.two_pow_add_eq_or_of_lt ha b, Nat.add_comm]
theorem om (b t : Nat) (ht : t ≤ 7) (hb : b ≤ 1) : shl .u8 (b : Int) (t : Int) = ((b * 2 ^ t : Nat) : Int) := by
 have h7 : 2 ^ t ≤ 128 := Nat.pow_le_pow_right (n := 2) (by omega) ht
 have hb2 : b * 2 ^ t ≤ 2 ^ t := by
  have := Nat.mul_le_mul_right (2 ^ t) hb
  omega
 unfold shl
 rw [Int.toNat_natCast, show min t IntKind.u8.bits = t by simp [IntKind.bits]; omega, IntKind.wrap_u8]
 have : ((b * 2 ^ t : Nat) : Int) = (b : Int) * 2 ^ t := by simp
 omega
theorem kT (k : IntKind) (n t : Nat) (ht : t ≤ k.bits) : shr k (n : Int) (t : Int) = ((n / 2 ^ t : Nat) : Int) := by
 unfold shr
 rw [Int.toNat_natCast, Nat.min_eq_left ht]
 simp
theorem ju (x k : Nat) : x % 2 ^ (k + 1) = x % 2 ^ k + 2 ^ k * (x / 2 ^ k % 2) := by
 rw [Nat.pow_succ, Nat.mod_mul]
theorem oz (L V b i j x : Nat) (hV : V < 2 ^ (b * i)) :
  (cy L (V + 2 ^ (b * i) * (x % 2 ^ j))).set ((i * b + j) / 8) (Go.bits .or .u8 (((V + 2 ^ (b * i) * (x % 2 ^ j)) / 256 ^ ((i * b + j) / 8) % 256 : Nat) : Int) (shl .u8 (((x / 2 ^ j % 2 : Nat) : Int) % 256) (((i * b + j) % 8 : Nat) : Int)))
   = cy L (V + 2 ^ (b * i) * (x % 2 ^ (j + 1))) := by
 obtain ⟨m, hm⟩ : ∃ m, i * b + j = m := ⟨_, rfl⟩
 have hmb : b * i + j = m := by rw [← hm, Nat.mul_comm]
 obtain ⟨S, hSe⟩ : ∃ S, V + 2 ^ (b * i) * (x % 2 ^ j) = S := ⟨_, rfl⟩
 obtain ⟨u, hu⟩ : ∃ u, x / 2 ^ j % 2 = u := ⟨_, rfl⟩
 have hu1 : u ≤ 1 := by omega
 have hS : S < 2 ^ m := by
  have h1 : x % 2 ^ j < 2 ^ j := Nat.mod_lt _ (Nat.two_pow_pos j)
  have h2 : 2 ^ (b * i) * (x % 2 ^ j) + 2 ^ (b * i) ≤ 2 ^ (b * i) * 2 ^ j := by rw [← Nat.mul_succ]; exact Nat.mul_le_mul_left _ h1
  rw [← hSe, ← hmb, Nat.pow_add]
  exact Nat.lt_of_lt_of_le (Nat.lt_of_lt_of_le (Nat.add_lt_add_right hV _) (by rw [Nat.add_comm]; exact Aa _)) h2
 have hnext : V + 2 ^ (b * i) * (x % 2 ^ (j + 1)) = S + u * 2 ^ m := by
  rw [ju, Nat.mul_add, ← hSe, ← hmb, hu, Nat.pow_add, Nat.mul_comm u, Nat.mul_assoc, Nat.add_assoc]
 have hold : S / 256 ^ (m / 8) < 2 ^ (m % 8) := by
  rw [Nat.div_lt_iff_lt_mul (Nat.pow_pos (by omega)), gD, ← Nat.pow_add, show m % 8 + 8 * (m / 8) = m by omega]; exact hS
 have h128 : 2 ^ (m % 8) ≤ 128 := Nat.pow_le_pow_right (n := 2) (by omega) (show m % 8 ≤ 7 by omega)
 have hset := ot L S m u hS hu1
 rw [hm, hSe, hnext, hu, show ((u : Nat) : Int) % 256 = ((u : Nat) : Int) by omega, om u (m % 8) (by omega) hu1, Nat.mod_eq_of_lt (Nat.lt_of_lt_of_le hold (Nat.le_trans h128 (by omega))), pq _ (m % 8) u hold (by omega) hu1]
 rw [Nat.mod_eq_of_lt (Nat.lt_of_lt_of_le hold (Nat.le_trans h128 (by omega)))] at hset
 exact hset
theorem lP (l : List Int) (b : Nat) (hb1 : 1 ≤ b) (hb : b ≤ 12) (hl : l.length ≤ 1099511627776) (hf : l.all (hJ b) = true) (i : Nat) (hi : i < l.length) {r : ByteArray}
  (h : Ev (fun k => ay.l0 k (b : Int) (cy ((l.length * b + 7) / 8) (eq b l (i + 1))) l (l.length : Int) ((i + 1 : Nat) : Int)) r) :
  Ev (fun k => ay.l1 k (b : Int) (cy ((l.length * b + 7) / 8) (eq b l i)) (i : Int) l[i] l (l.length : Int) (i : Int) (b : Int) 0) r := by
 obtain ⟨x, hx, hxb⟩ := oY hf i hi
 have hib : i * b + b ≤ l.length * b := by rw [← Nat.succ_mul]; exact Nat.mul_le_mul_right _ hi
 have hlb : l.length * b ≤ 13194139533312 := Nat.le_trans (Nat.mul_le_mul_left _ hb) (by omega)
 have hV := nb hf i (by omega)
 have h12 : 2 ^ b ≤ 4096 := Nat.pow_le_pow_right (n := 2) (by omega) hb
 have hx12 : x < 4096 := by omega
 have e := Ev.up (g := fun j k => ay.l1 k (b : Int) (cy ((l.length * b + 7) / 8) (eq b l i + 2 ^ (b * i) * (x % 2 ^ j))) (i : Int) l[i] l (l.length : Int) (i : Int) (b : Int) (j : Int)) (r := r) b ?_ ?_ 0 (by omega)
 ·simpa [Nat.mod_one] using e
 ·intro j hj h'
  refine Ev.step (fun k => ?_) h'
  have n1 : i * b ≤ 9223372036854775807 := by clear hV hx h h12; omega
  have n2 : i * b + j ≤ 9223372036854775807 := by clear hV hx h h12; omega
  have n3 : (i * b + j) / 8 ≤ 9223372036854775807 := by clear hV hx h h12; omega
  have q0 : (i * b + j) / 8 < (l.length * b + 7) / 8 := by clear hV hx h h12; omega
  have q1 : (((i * b + j) / 8 : Nat) : Int) < (((l.length * b + 7) / 8 : Nat) : Int) := Int.ofNat_lt.mpr q0
  have j64 : j ≤ IntKind.i64.bits := by clear hV hx h h12; simp [IntKind.bits]; omega
  have jw := dv j (by clear hV hx h h12; omega)
  have e1 : wrap64 ((wrap64 ((i : Int) * (b : Int))) + (j : Int)) = ((i * b + j : Nat) : Int) := by
   have e0 : (i : Int) * (b : Int) = ((i * b : Nat) : Int) := by simp
   rw [e0, g7 (i * b) n1]
   exact g7 (i * b + j) n2
  have e2 : wrap64 (((i * b + j) / 8 : Nat) : Int) = (((i * b + j) / 8 : Nat) : Int) := g7 _ n3
  have e3 : Go.bits .and .i64 ((x / 2 ^ j : Nat) : Int) 1 = ((x / 2 ^ j % 2 : Nat) : Int) := nH _ (Nat.lt_of_le_of_lt (Nat.div_le_self _ _) (Nat.lt_trans hx12 (by decide)))
  have e4 := oz ((l.length * b + 7) / 8) (eq b l i) b i j x hV
  simp only [ay.l1]
  rw [e1, o7, rF, e2, Da (Int.ofNat_lt.mpr hj), Da (Int.natCast_nonneg _), Da (by rw [fe]; exact q1), Da (Int.natCast_nonneg _), Da (Int.natCast_nonneg _), Int.toNat_natCast,
   dg _ _ (by rw [fe]; exact q0), eD, hx, kT .i64 x j j64, e3, e4, jw]
 ·refine Ev.step (f := fun k => ay.l0 k (b : Int) (cy ((l.length * b + 7) / 8) (eq b l (i + 1))) l (l.length : Int) ((i + 1 : Nat) : Int)) (fun k => ?_) h
  simp only [ay.l1]
  rw [Ea (by omega), dv i (by omega), jU b l i hi, Nat.mod_eq_of_lt hxb, hx, Int.toNat_natCast]
theorem iA (l : List Int) (b : Nat) (hb1 : 1 ≤ b) (hb : b ≤ 12) (hl : l.length ≤ 1099511627776) (hf : l.all (hJ b) = true) : Ev (fun k => ay.f k l (b : Int)) (fl b l) := by
 have hlb : l.length * b ≤ 13194139533312 := Nat.le_trans (Nat.mul_le_mul_left _ hb) (by omega)
 have e1 : wrap64 (Int.tdiv (wrap64 ((wrap64 ((l.length : Int) * (b : Int))) + 7)) 8) = (((l.length * b + 7) / 8 : Nat) : Int) := by
  have e0 : (l.length : Int) * (b : Int) = ((l.length * b : Nat) : Int) := by simp
  rw [e0, g7 (l.length * b) (by omega), show ((l.length * b : Nat) : Int) + 7 = ((l.length * b + 7 : Nat) : Int) by omega, g7 (l.length * b + 7) (by omega), o7, g7 ((l.length * b + 7) / 8) (by omega)]
 unfold ay.f fl
 rw [e1, Int.toNat_natCast]
 refine Ev.pos (by omega) (Ev.pos (by omega) ?_)
 rw [← nv]
 have h := Ev.up (g := fun i k => ay.l0 k (b : Int) (cy ((l.length * b + 7) / 8) (eq b l i)) l (l.length : Int) (i : Int)) (r := strOfNums (cy ((l.length * b + 7) / 8) (eq b l l.length))) l.length ?_ ?_ 0 (by omega)
 ·simpa [eq, gn, nF] using h
 ·intro i hi h
  refine Ev.step (fun k => ?_) (lP l b hb1 hb hl hf i hi h)
  simp only [ay.l0]
  rw [Da (by omega), Da (by omega), Da (by omega), dg l i hi]
 ·refine Ev.step (f := fun _ => some (strOfNums (cy ((l.length * b + 7) / 8) (eq b l l.length)))) (fun k => ?_) (Ev.now _)
  simp only [ay.l0]
  rw [Ea (by omega)]
theorem qR {α : Type} {p : α → Bool} {l : List α} (h : ¬ l.all p = true) : ∃ i, ∃ h : i < l.length, p l[i] = false := by
 rw [List.all_eq_true] at h
 simp only [Classical.not_forall] at h
 obtain ⟨x, hx, hp⟩ := h
 obtain ⟨i, hi, rfl⟩ := List.mem_iff_getElem.mp hx
 exact ⟨i, hi, by simpa using hp⟩
set_option maxHeartbeats 1000000 in
theorem m6 (l : List Int) (b : Nat) (hb1 : 1 ≤ b) (hb : b ≤ 12) (hl : l.length ≤ 1099511627776) (hf : l.all (hJ b) = true) (i : Nat) (hi : i < l.length) {r : ByteArray × Bool}
  (h : Ev (fun k => aZ.l1 k l (b : Int) (cy (b * (i + 1) / 8) (eq b l (i + 1))) ((eq b l (i + 1) / 256 ^ (b * (i + 1) / 8) : Nat) : Int) ((b * (i + 1) % 8 : Nat) : Int) ((i + 1 : Nat) : Int)) r) :
  Ev (fun k => aZ.l2 k l (b : Int) (cy (b * i / 8) (eq b l (i + 1))) ((eq b l (i + 1) / 256 ^ (b * i / 8) : Nat) : Int) ((b * (i + 1) - 8 * (b * i / 8) : Nat) : Int) (i : Int)) r := by
 have hlb : b * l.length ≤ 13194139533312 := Nat.le_trans (Nat.mul_le_mul_right _ hb) (by omega)
 have hib : b * (i + 1) ≤ b * l.length := Nat.mul_le_mul_left _ hi
 have hbs : b * (i + 1) = b * i + b := Nat.mul_succ b i
 have hV := nb hf (i + 1) (by omega)
 refine Ev.upFrom (g := fun p k => aZ.l2 k l (b : Int) (cy p (eq b l (i + 1))) ((eq b l (i + 1) / 256 ^ p : Nat) : Int) ((b * (i + 1) - 8 * p : Nat) : Int) (i : Int)) (b * i / 8) (b * (i + 1) / 8) ?_ ?_ (by omega)
 ·intro p hp0 hp h'
  refine Ev.step (fun k => ?_) h'
  have hsmall : eq b l (i + 1) / 256 ^ p < 2 ^ 20 := by
   rw [Nat.div_lt_iff_lt_mul (Nat.pow_pos (by omega)), gD, ← Nat.pow_add]
   exact Nat.lt_of_lt_of_le hV (Nat.pow_le_pow_right (by omega) (by omega))
  have e1 : Int.tmod ((eq b l (i + 1) / 256 ^ p : Nat) : Int) 256 % 256 = ((eq b l (i + 1) / 256 ^ p % 256 : Nat) : Int) := by
   rw [show (256 : Int) = ((256 : Nat) : Int) from rfl, lz]; omega
  have e2 : wrap64 (Int.tdiv ((eq b l (i + 1) / 256 ^ p : Nat) : Int) 256) = ((eq b l (i + 1) / 256 ^ (p + 1) : Nat) : Int) := by
   rw [show (256 : Int) = ((256 : Nat) : Int) from rfl, kW, Nat.pow_succ, ← Nat.div_div_eq_div_mul, g7 (eq b l (i + 1) / 256 ^ p / 256) (by omega)]
  simp only [aZ.l2]
  rw [Da (by omega), Da (by rw [fe]; omega), e1, e2, jX, w64 (by omega) (by omega)]
  congr 1
  omega
 ·refine Ev.step (fun k => ?_) h
  simp only [aZ.l2]
  rw [Ea (by omega), dv i (by omega)]
  congr 1
  omega
theorem m5 (l : List Int) (b : Int) (hl : l.length ≤ 1099511627776) : Ev (fun k => aZ.f k l b) (o5 l b) := by
 unfold aZ.f o5
 simp only [fI, Option.bind_some]
 by_cases hb : 1 ≤ b ∧ b ≤ 12
 ·refine Ev.pos (by simpa using hb) ?_
  obtain ⟨c, rfl⟩ : ∃ c : Nat, b = (c : Int) := ⟨b.toNat, by omega⟩
  rw [Int.toNat_natCast]
  have h12 : (2 : Int) ^ c ≤ 4096 := by
   have : ((2 ^ c : Nat) : Int) ≤ ((2 ^ 12 : Nat) : Int) := Int.ofNat_le.mpr (Nat.pow_le_pow_right (by omega) (by omega))
   simpa using this
  have h0 := mX c
  have es : wrap64 ((2 : Int) ^ c - 1) = 2 ^ c - 1 := w64 (by omega) (by omega)
  have e2 := fa (c : Int) (by omega)
  rw [Int.toNat_natCast] at e2
  by_cases hf : l.all (hJ c) = true
  ·rw [Da ⟨hb, hf⟩]
   refine Ev.up (g := fun i k => aZ.l0 k l (c : Int) (i : Int)) (r := (fl c l, true)) l.length ?_ ?_ 0 (by omega)
   ·intro i hi h
    refine Ev.step (f := fun k => (au.f k (c : Int)).bind fun t148 => ((aY.f (rd l (i : Int)) 0 (wrap64 (t148 - 1))).bind fun t149 => (if t149 = true then (aZ.l0 k l (c : Int) (wrap64 ((i : Int) + 1))) else (some ((⟨#[]⟩ : ByteArray), false))))) (fun k => ?_) ?_
    ·simp only [aZ.l0]
     rw [Da (by omega), Da (by omega)]
    ·refine Ev.bind e2 ?_
     simp only [es, fI, Option.bind_some]
     rw [dg l i hi, dv i (by omega)]
     exact Ev.pos (List.all_eq_true.mp hf _ (List.getElem_mem hi)) h
   ·refine Ev.step (f := fun k => aZ.l1 k l (c : Int) (([] : List Int)) 0 0 0) (fun k => ?_) ?_
    ·simp only [aZ.l0]
     rw [Ea (by omega)]
    ·have key := Ev.up (g := fun i k => aZ.l1 k l (c : Int) (cy (c * i / 8) (eq c l i)) ((eq c l i / 256 ^ (c * i / 8) : Nat) : Int) ((c * i % 8 : Nat) : Int) (i : Int)) (r := (fl c l, true)) l.length ?_ ?_ 0 (by omega)
     ·simpa [eq, gn, cy] using key
     ·intro i hi h
      have hlb : c * l.length ≤ 13194139533312 := Nat.le_trans (Nat.mul_le_mul_right l.length (show c ≤ 12 by omega)) (by omega)
      have hib : c * (i + 1) ≤ c * l.length := Nat.mul_le_mul_left _ hi
      have hbs : c * (i + 1) = c * i + c := Nat.mul_succ c i
      obtain ⟨x, hx, hxb⟩ := oY hf i hi
      have hV := nb hf i (by omega)
      have hq : eq c l i / 256 ^ (c * i / 8) < 2 ^ (c * i % 8) := by
       rw [Nat.div_lt_iff_lt_mul (Nat.pow_pos (by omega)), gD, ← Nat.pow_add, show c * i % 8 + 8 * (c * i / 8) = c * i by omega]; exact hV
      have h128 : 2 ^ (c * i % 8) ≤ 128 := Nat.pow_le_pow_right (n := 2) (by omega) (show c * i % 8 ≤ 7 by omega)
      have h4096 : 2 ^ c ≤ 4096 := Nat.pow_le_pow_right (n := 2) (by omega) (show c ≤ 12 by omega)
      have hxc : x * 2 ^ (c * i % 8) ≤ 4096 * 128 := Nat.mul_le_mul (by omega) h128
      have ed : eq c l (i + 1) / 256 ^ (c * i / 8) = eq c l i / 256 ^ (c * i / 8) + x * 2 ^ (c * i % 8) := by
       have : 2 ^ (c * i) = 256 ^ (c * i / 8) * 2 ^ (c * i % 8) := by rw [gD, ← Nat.pow_add]; congr 1; omega
       rw [jU c l i hi, hx, Int.toNat_natCast, this, Nat.mul_assoc, Nat.add_mul_div_left _ _ (Nat.pow_pos (by omega)), Nat.mul_comm x]
      have eb : cy (c * i / 8) (eq c l i) = cy (c * i / 8) (eq c l (i + 1)) := by
       apply List.ext_getElem
       ·simp [cy]
       ·intro j h1 h2
        rw [eD, eD]
        congr 1
        have hj : j < c * i / 8 := by simpa [cy] using h1
        rw [jU c l i hi]
        obtain ⟨d, hd⟩ : ∃ d, c * i = 8 * (j + 1) + d := ⟨c * i - 8 * (j + 1), by omega⟩
        have : 2 ^ (c * i) * l[i].toNat = 256 ^ j * (256 * (2 ^ d * l[i].toNat)) := by
         rw [hd, Nat.pow_add, ← gD, Nat.pow_succ]; simp only [Nat.mul_assoc]
        rw [this, Nat.add_mul_div_left _ _ (Nat.pow_pos (by omega)), Nat.add_mul_mod_self_left]
      have e3 := fa ((c * i % 8 : Nat) : Int) (by omega)
      rw [Int.toNat_natCast] at e3
      refine Ev.step (f := fun k => (au.f k ((c * i % 8 : Nat) : Int)).bind fun t157 => (aZ.l2 k l (c : Int) (cy (c * i / 8) (eq c l i)) (wrap64 (((eq c l i / 256 ^ (c * i / 8) : Nat) : Int) + (wrap64 ((rd l (i : Int)) * t157)))) (wrap64 (((c * i % 8 : Nat) : Int) + (c : Int))) (i : Int))) (fun k => ?_) (Ev.bind e3 ?_)
      ·simp only [aZ.l1]
       rw [Da (by omega), Da (by omega)]
      ·have h2 := m6 l c (by omega) (by omega) hl hf i hi h
       have em : (x : Int) * 2 ^ (c * i % 8) = ((x * 2 ^ (c * i % 8) : Nat) : Int) := by simp
       rw [dg l i hi, hx, em, g7 (x * 2 ^ (c * i % 8)) (by omega), eb, w64 (x := ((eq c l i / 256 ^ (c * i / 8) : Nat) : Int) + ((x * 2 ^ (c * i % 8) : Nat) : Int)) (by have hA := Int.natCast_nonneg (eq c l i / 256 ^ (c * i / 8)); have hB := Int.natCast_nonneg (x * 2 ^ (c * i % 8)); omega) (by omega), w64 (x := ((c * i % 8 : Nat) : Int) + (c : Int)) (by omega) (by omega)]
       rw [ed] at h2
       refine Ev.congr (fun k => ?_) h2
       congr 1
       omega
     ·have hlb : c * l.length ≤ 13194139533312 := Nat.le_trans (Nat.mul_le_mul_right l.length (show c ≤ 12 by omega)) (by omega)
      have hmc : l.length * c = c * l.length := Nat.mul_comm _ _
      unfold fl
      rw [← nv]
      by_cases h8 : c * l.length % 8 = 0
      ·refine Ev.step (f := fun _ => some (strOfNums (cy (c * l.length / 8) (eq c l l.length)), true)) (fun k => ?_) ?_
       ·simp only [aZ.l1]
        rw [Ea (by omega), Ea (by omega)]
       ·rw [show (l.length * c + 7) / 8 = c * l.length / 8 by omega]; exact Ev.now _
      ·refine Ev.step (f := fun _ => some (strOfNums (cy (c * l.length / 8 + 1) (eq c l l.length)), true)) (fun k => ?_) ?_
       ·simp only [aZ.l1]
        rw [Ea (by omega), Da (by omega), Da (by rw [fe]; omega), ← jX]
        rfl
       ·rw [show (l.length * c + 7) / 8 = c * l.length / 8 + 1 by omega]; exact Ev.now _
  ·rw [Ea (fun h => hf h.2)]
   obtain ⟨n, hn, hbad⟩ := qR hf
   have step : ∀ i, (hi : i < l.length) → ∀ {r : ByteArray × Bool}, Ev (fun k => if hJ c l[i] = true then aZ.l0 k l (c : Int) ((i + 1 : Nat) : Int) else some ((⟨#[]⟩ : ByteArray), false)) r → Ev (fun k => aZ.l0 k l (c : Int) (i : Int)) r := by
    intro i hi r h
    refine Ev.step (f := fun k => (au.f k (c : Int)).bind fun t148 => ((aY.f (rd l (i : Int)) 0 (wrap64 (t148 - 1))).bind fun t149 => (if t149 = true then (aZ.l0 k l (c : Int) (wrap64 ((i : Int) + 1))) else (some ((⟨#[]⟩ : ByteArray), false))))) (fun k => ?_) ?_
    ·simp only [aZ.l0]
     rw [Da (by omega), Da (by omega)]
    ·refine Ev.bind e2 ?_
     simp only [es, fI, Option.bind_some]
     rw [dg l i hi, dv i (by omega)]
     exact h
   refine Ev.up (g := fun i k => aZ.l0 k l (c : Int) (i : Int)) n ?_ (step n hn (Ev.neg (by rw [hbad]; decide) (Ev.now _))) 0 (by omega)
   intro i hi h
   refine step i (by omega) ?_
   by_cases hfi : hJ c (l[i]'(by omega)) = true
   ·exact Ev.pos hfi h
   ·exact Ev.neg hfi (Ev.now _)
 ·rw [Ea (fun h => hb h.1)]
  exact Ev.neg (by simpa using hb) (Ev.now _)
def dn (b S n : Nat) : List Int := (List.range n).map fun i => ((S / 2 ^ (b * i) % 2 ^ b : Nat) : Int)
theorem fi (b S n : Nat) : (dn b S n).length = n := by simp [dn]
theorem j9 (b S n : Nat) : dn b S (n + 1) = dn b S n ++ [((S / 2 ^ (b * n) % 2 ^ b : Nat) : Int)] := by simp [dn, List.range_succ]
theorem ox (b S n : Nat) : (dn b S n).all (hJ b) = true := by
 rw [List.all_eq_true]
 intro x hx
 obtain ⟨i, _, rfl⟩ := List.mem_map.mp hx
 refine wa ⟨by omega, ?_⟩
 have h1 : S / 2 ^ (b * i) % 2 ^ b < 2 ^ b := Nat.mod_lt _ (Nat.two_pow_pos b)
 have h3 : ((2 ^ b : Nat) : Int) = (2 : Int) ^ b := by simp
 omega
theorem oE (b S n : Nat) : kn (dn b S n) = (List.range n).map fun i => S / 2 ^ (b * i) % 2 ^ b := by
 unfold kn dn
 rw [List.map_map]
 exact List.map_congr_left fun i _ => Int.toNat_natCast _
theorem nY (b S n : Nat) : gn b (kn (dn b S n)) = S % 2 ^ (b * n) := by rw [oE, nD]
def ex (s : ByteArray) (b n : Int) : List Int × Bool :=
 if (1 ≤ b ∧ b ≤ 12) ∧ (0 ≤ n ∧ n ≤ 1000) ∧ s.size = (n.toNat * b.toNat + 7) / 8 then
  if dr s < 2 ^ (b.toNat * n.toNat) then (dn b.toNat (dr s) n.toNat, true) else ([], false)
 else ([], false)
theorem nN (S m u : Nat) (h : u ≤ m) : S % 2 ^ m / 2 ^ u = S / 2 ^ u % 2 ^ (m - u) := by
 rw [show (2 : Nat) ^ m = 2 ^ u * 2 ^ (m - u) by rw [← Nat.pow_add]; congr 1; omega, Nat.mod_mul_right_div_self]
theorem nM (S m u b : Nat) (h : u + b ≤ m) : S % 2 ^ m / 2 ^ u % 2 ^ b = S / 2 ^ u % 2 ^ b := by
 rw [nN S m u (by omega), Nat.mod_mod_of_dvd _ (Nat.pow_dvd_pow 2 (by omega))]
theorem qa {n b : Nat} (hn : n ≤ 1000) (hb : b ≤ 12) : wrap64 (Int.tdiv (wrap64 ((wrap64 ((n : Int) * (b : Int))) + 7)) 8) = (((n * b + 7) / 8 : Nat) : Int) := by
 have h : n * b ≤ 1000 * 12 := Nat.mul_le_mul hn hb
 have e0 : (n : Int) * (b : Int) = ((n * b : Nat) : Int) := by simp
 rw [e0, g7 (n * b) (by omega), show ((n * b : Nat) : Int) + 7 = ((n * b + 7 : Nat) : Int) by omega, g7 (n * b + 7) (by omega), o7, g7 ((n * b + 7) / 8) (by omega)]
set_option maxHeartbeats 1000000 in
theorem lJ (s : ByteArray) (b n : Nat) (hb1 : 1 ≤ b) (hb : b ≤ 12) (hn : n ≤ 1000) (hs : s.size = (n * b + 7) / 8) (i : Nat) (hi : i < n) {r : List Int × Bool}
  (h : Ev (fun k => aw.l0 k s (b : Int) (n : Int) (dn b (dr s) (i + 1)) ((dr s % 2 ^ (8 * ((b * (i + 1) + 7) / 8)) / 2 ^ (b * (i + 1)) : Nat) : Int) ((8 * ((b * (i + 1) + 7) / 8) - b * (i + 1) : Nat) : Int) (((b * (i + 1) + 7) / 8 : Nat) : Int) ((i + 1 : Nat) : Int)) r) :
  Ev (fun k => aw.l1 k s (b : Int) (n : Int) (dn b (dr s) i) ((dr s % 2 ^ (8 * ((b * i + 7) / 8)) / 2 ^ (b * i) : Nat) : Int) ((8 * ((b * i + 7) / 8) - b * i : Nat) : Int) (((b * i + 7) / 8 : Nat) : Int) (i : Int)) r := by
 have hbn : b * n ≤ 12 * 1000 := Nat.mul_le_mul hb hn
 have hib : b * (i + 1) ≤ b * n := Nat.mul_le_mul_left _ hi
 have hbs : b * (i + 1) = b * i + b := Nat.mul_succ b i
 have hmc : n * b = b * n := Nat.mul_comm _ _
 have e2 := fa (b : Int) (by omega)
 rw [Int.toNat_natCast] at e2
 have small : ∀ p, p ≤ (b * (i + 1) + 7) / 8 → dr s % 2 ^ (8 * p) / 2 ^ (b * i) < 2 ^ 20 := by
  intro p hp
  rw [Nat.div_lt_iff_lt_mul (Nat.two_pow_pos _), ← Nat.pow_add]
  exact Nat.lt_of_lt_of_le (Nat.mod_lt _ (Nat.two_pow_pos _)) (Nat.pow_le_pow_right (by omega) (by omega))
 refine Ev.upFrom (g := fun p k => aw.l1 k s (b : Int) (n : Int) (dn b (dr s) i) ((dr s % 2 ^ (8 * p) / 2 ^ (b * i) : Nat) : Int) ((8 * p - b * i : Nat) : Int) (p : Int) (i : Int)) ((b * i + 7) / 8) ((b * (i + 1) + 7) / 8) ?_ ?_ (by omega)
 ·intro p hp0 hp h'
  have e3 := fa ((8 * p - b * i : Nat) : Int) (by omega)
  rw [Int.toNat_natCast] at e3
  refine Ev.step (f := fun k => (au.f k ((8 * p - b * i : Nat) : Int)).bind fun t193 => (aw.l1 k s (b : Int) (n : Int) (dn b (dr s) i) (wrap64 (((dr s % 2 ^ (8 * p) / 2 ^ (b * i) : Nat) : Int) + (wrap64 ((wrap64 (bt s (p : Int))) * t193)))) (wrap64 (((8 * p - b * i : Nat) : Int) + 8)) (wrap64 ((p : Int) + 1)) (i : Int))) (fun k => ?_) (Ev.bind e3 ?_)
  ·simp only [aw.l1]
   rw [Da (by omega), Da (by omega), Da (by omega)]
  ·have hsm := small (p + 1) (by omega)
   have eS : dr s % 2 ^ (8 * (p + 1)) / 2 ^ (b * i) = dr s % 2 ^ (8 * p) / 2 ^ (b * i) + dr s / 256 ^ p % 256 * 2 ^ (8 * p - b * i) := by
    rw [show 8 * (p + 1) = 8 * p + 8 by omega, Nat.pow_add, Nat.mod_mul, show (2 : Nat) ^ (8 * p) = 2 ^ (b * i) * 2 ^ (8 * p - b * i) by rw [← Nat.pow_add]; congr 1; omega]
    rw [Nat.mul_assoc (2 ^ (b * i)), Nat.add_mul_div_left _ _ (Nat.two_pow_pos _), ← Nat.pow_add, show b * i + (8 * p - b * i) = 8 * p by omega, ← gD, Nat.mul_comm (2 ^ (8 * p - b * i))]
   rw [mJ s p (by omega), g7 (dr s / 256 ^ p % 256) (by omega)]
   have em : ((dr s / 256 ^ p % 256 : Nat) : Int) * 2 ^ (8 * p - b * i) = ((dr s / 256 ^ p % 256 * 2 ^ (8 * p - b * i) : Nat) : Int) := by simp
   have hA := Int.natCast_nonneg (dr s % 2 ^ (8 * p) / 2 ^ (b * i))
   have hB := Int.natCast_nonneg (dr s / 256 ^ p % 256 * 2 ^ (8 * p - b * i))
   rw [em, g7 (dr s / 256 ^ p % 256 * 2 ^ (8 * p - b * i)) (by omega), dv p (by omega)]
   rw [w64 (x := ((dr s % 2 ^ (8 * p) / 2 ^ (b * i) : Nat) : Int) + ((dr s / 256 ^ p % 256 * 2 ^ (8 * p - b * i) : Nat) : Int)) (by omega) (by omega), w64 (x := ((8 * p - b * i : Nat) : Int) + 8) (by omega) (by omega)]
   rw [eS] at h'
   refine Ev.congr (fun k => ?_) h'
   congr 1
   omega
 ·have hsm := small ((b * (i + 1) + 7) / 8) (by omega)
  have h12 : (2 : Int) ^ b ≤ 4096 := by
   have : ((2 ^ b : Nat) : Int) ≤ ((2 ^ 12 : Nat) : Int) := Int.ofNat_le.mpr (Nat.pow_le_pow_right (by omega) (by omega))
   simpa using this
  have h0 := mX b
  refine Ev.step (f := fun k => ((au.f k (b : Int)).bind fun t194 => (if t194 = 0 then (none) else (if (dn b (dr s) i).length < 17592186044416 then ((au.f k (b : Int)).bind fun t198 => (if t198 = 0 then (none) else (aw.l0 k s (b : Int) (n : Int) (dn b (dr s) i ++ [Int.tmod ((dr s % 2 ^ (8 * ((b * (i + 1) + 7) / 8)) / 2 ^ (b * i) : Nat) : Int) t194]) (wrap64 (Int.tdiv ((dr s % 2 ^ (8 * ((b * (i + 1) + 7) / 8)) / 2 ^ (b * i) : Nat) : Int) t198)) (wrap64 (((8 * ((b * (i + 1) + 7) / 8) - b * i : Nat) : Int) - (b : Int))) ((((b * (i + 1) + 7) / 8 : Nat) : Int)) (wrap64 ((i : Int) + 1))))) else (none))))) (fun k => ?_) ?_
  ·simp only [aw.l1]
   rw [Ea (by omega)]
  ·refine Ev.bind e2 (Ev.neg (by omega) (Ev.pos (by rw [fi]; omega) (Ev.bind e2 (Ev.neg (by omega) ?_))))
   have ec : (2 : Int) ^ b = ((2 ^ b : Nat) : Int) := by simp
   rw [ec, lz, kW, nM _ _ _ _ (by omega), ← j9, Nat.div_div_eq_div_mul, ← Nat.pow_add, ← hbs, g7 (dr s % 2 ^ (8 * ((b * (i + 1) + 7) / 8)) / 2 ^ (b * (i + 1))) (by
    have : dr s % 2 ^ (8 * ((b * (i + 1) + 7) / 8)) / 2 ^ (b * (i + 1)) ≤ dr s % 2 ^ (8 * ((b * (i + 1) + 7) / 8)) / 2 ^ (b * i) := Nat.div_le_div_left (Nat.pow_le_pow_right (by omega) (by omega)) (Nat.two_pow_pos _)
    omega), w64 (x := ((8 * ((b * (i + 1) + 7) / 8) - b * i : Nat) : Int) - (b : Int)) (by omega) (by omega), dv i (by omega)]
   refine Ev.congr (fun k => ?_) h
   congr 1
   omega
theorem ir (s : ByteArray) (b n : Int) : Ev (fun k => aw.f k s b n) (ex s b n) := by
 unfold aw.f ex
 simp only [fI, Option.bind_some]
 have bad : Ev (fun k => aw.j0 k s b n [] true) (([] : List Int), false) := by
  refine Ev.step (f := fun _ => some ([], false)) (fun k => ?_) (Ev.now _)
  simp only [aw.j0, if_true]
 by_cases hb : 1 ≤ b ∧ b ≤ 12
 ·refine Ev.pos (by simpa using hb) ?_
  by_cases hn : 0 ≤ n ∧ n ≤ 1000
  ·refine Ev.pos (by simpa using hn) ?_
   obtain ⟨c, rfl⟩ : ∃ c : Nat, b = (c : Int) := ⟨b.toNat, by omega⟩
   obtain ⟨m, rfl⟩ : ∃ c : Nat, n = (c : Int) := ⟨n.toNat, by omega⟩
   rw [Int.toNat_natCast, Int.toNat_natCast, qa (by omega) (by omega)]
   by_cases hs : s.size = (m * c + 7) / 8
   ·rw [Da ⟨hb, hn, hs⟩, show (((s.size : Int) != (((m * c + 7) / 8 : Nat) : Int)) = false) by rw [bne_eq_false_iff_eq, hs]]
    have hmc : m * c = c * m := Nat.mul_comm _ _
    refine Ev.step (f := fun k => aw.l0 k s (c : Int) (m : Int) [] 0 0 0 0) (fun k => ?_) ?_
    ·simp only [aw.j0]
     rw [Ea (by decide)]
    ·have key := Ev.up (g := fun i k => aw.l0 k s (c : Int) (m : Int) (dn c (dr s) i) ((dr s % 2 ^ (8 * ((c * i + 7) / 8)) / 2 ^ (c * i) : Nat) : Int) ((8 * ((c * i + 7) / 8) - c * i : Nat) : Int) (((c * i + 7) / 8 : Nat) : Int) (i : Int)) (r := if dr s < 2 ^ (c * m) then (dn c (dr s) m, true) else ([], false)) m ?_ ?_ 0 (by omega)
     ·simpa [dn, Nat.mod_one] using key
     ·intro i hi h
      refine Ev.step (fun k => ?_) (lJ s c m (by omega) (by omega) (by omega) hs i hi h)
      simp only [aw.l0]
      rw [Da (by omega)]
     ·have hlt := o9 s
      rw [gD, hs, hmc] at hlt
      have e1 : dr s % 2 ^ (8 * ((c * m + 7) / 8)) = dr s := Nat.mod_eq_of_lt hlt
      by_cases hq : dr s < 2 ^ (c * m)
      ·rw [Da hq]
       refine Ev.step (f := fun _ => some (dn c (dr s) m, true)) (fun k => ?_) (Ev.now _)
       simp only [aw.l0]
       rw [Ea (by omega), Da (by rw [e1, Nat.div_eq_of_lt hq]; rfl)]
      ·rw [Ea hq]
       refine Ev.step (f := fun _ => some ([], false)) (fun k => ?_) (Ev.now _)
       simp only [aw.l0]
       have h2 : 0 < dr s / 2 ^ (c * m) := Nat.div_pos (by omega) (Nat.two_pow_pos _)
       rw [Ea (by omega), Ea (by rw [e1]; omega)]
   ·rw [Ea (fun h => hs h.2.2), show (((s.size : Int) != (((m * c + 7) / 8 : Nat) : Int)) = true) by rw [bne_iff_ne]; omega]
    exact bad
  ·rw [Ea (fun h => hn h.2.1)]
   exact Ev.neg (by simpa using hn) bad
 ·rw [Ea (fun h => hb h.1)]
  exact Ev.neg (by simpa using hb) bad
theorem oo (a t b : Nat) (ha : a < 2 ^ t) (ht : t ≤ 60) (hb : b ≤ 1) : Go.bits .or .i64 (a : Int) ((b * 2 ^ t : Nat) : Int) = ((a + b * 2 ^ t : Nat) : Int) := by
 have h7 : 2 ^ t ≤ 2 ^ 60 := Nat.pow_le_pow_right (n := 2) (by omega) ht
 have hb2 : b * 2 ^ t ≤ 2 ^ t := by
  have := Nat.mul_le_mul_right (2 ^ t) hb
  omega
 rw [(bits_nat .i64 62 (by decide) (fun n h0 h1 => by rw [IntKind.wrap_i64]; omega) a (b * 2 ^ t) (by omega) (by omega)).2, Nat.or_comm, Nat.mul_comm b, ← Nat.two_pow_add_eq_or_of_lt ha b, Nat.add_comm]
theorem qX (S m : Nat) : S / 256 ^ (m / 8) % 256 / 2 ^ (m % 8) % 2 = S / 2 ^ m % 2 := by
 have h1 : (256 : Nat) = 2 ^ (m % 8) * 2 ^ (8 - m % 8) := by rw [← Nat.pow_add, show m % 8 + (8 - m % 8) = 8 by omega]
 have h2 : (2 : Nat) ^ (8 - m % 8) = 2 * 2 ^ (7 - m % 8) := by rw [show 8 - m % 8 = (7 - m % 8) + 1 by omega, Nat.pow_succ, Nat.mul_comm]
 conv => lhs; rw [show S / 256 ^ (m / 8) % 256 = S / 256 ^ (m / 8) % (2 ^ (m % 8) * 2 ^ (8 - m % 8)) by rw [← h1]]
 rw [Nat.mod_mul_right_div_self, h2, Nat.mod_mul_right_mod, Nat.div_div_eq_div_mul, gD, ← Nat.pow_add, show 8 * (m / 8) + m % 8 = m by omega]
theorem sF (i c j : Nat) (h : c * i + j ≤ 4611686018427387904) : wrap64 ((wrap64 ((i : Int) * (c : Int))) + (j : Int)) = ((c * i + j : Nat) : Int) := by
 have e0 : (i : Int) * (c : Int) = ((c * i : Nat) : Int) := by rw [Nat.mul_comm]; simp
 rw [e0, g7 (c * i) (by omega)]
 exact g7 (c * i + j) (by omega)
theorem n9 (S b i j : Nat) (hj : j ≤ 12) :
  Go.bits .or .i64 ((S / 2 ^ (b * i) % 2 ^ j : Nat) : Int) (shl .i64 (wrap64 (Go.bits .and .u8 (shr .u8 ((S / 256 ^ ((b * i + j) / 8) % 256 : Nat) : Int) (((b * i + j) % 8 : Nat) : Int)) 1)) (j : Int)) = ((S / 2 ^ (b * i) % 2 ^ (j + 1) : Nat) : Int) := by
 have e1 : shr .u8 ((S / 256 ^ ((b * i + j) / 8) % 256 : Nat) : Int) (((b * i + j) % 8 : Nat) : Int) = ((S / 256 ^ ((b * i + j) / 8) % 256 / 2 ^ ((b * i + j) % 8) : Nat) : Int) := kT .u8 _ _ (by simp [IntKind.bits]; omega)
 rw [e1, oO _ (Nat.lt_of_le_of_lt (Nat.div_le_self _ _) (Nat.mod_lt _ (by omega))), qX, ju, Nat.div_div_eq_div_mul, ← Nat.pow_add]
 have hlo : S / 2 ^ (b * i) % 2 ^ j < 2 ^ j := Nat.mod_lt _ (Nat.two_pow_pos j)
 have h12 : 2 ^ j ≤ 4096 := Nat.pow_le_pow_right (n := 2) (by omega) hj
 obtain ⟨u, hu⟩ : ∃ u, S / 2 ^ (b * i + j) % 2 = u := ⟨_, rfl⟩
 have hu1 : u ≤ 1 := by omega
 obtain ⟨q, hq⟩ : ∃ q, S / 2 ^ (b * i) % 2 ^ j = q := ⟨_, rfl⟩
 rw [hu, hq]
 rw [hq] at hlo
 have hb2 : u * 2 ^ j ≤ 4096 := Nat.le_trans (Nat.mul_le_mul_right (2 ^ j) hu1) (by omega)
 have hsh : shl .i64 (u : Int) (j : Int) = ((u * 2 ^ j : Nat) : Int) := by
  rw [ny _ _ (by omega), Int.toNat_natCast]
  have em : (u : Int) * 2 ^ j = ((u * 2 ^ j : Nat) : Int) := by simp
  rw [em, g7 (u * 2 ^ j) (by omega)]
 rw [g7 u (by omega), hsh, oo q j u hlo (by omega) hu1, Nat.mul_comm u]
theorem fL (s : ByteArray) (b n : Int) : Ev (fun k => av.f k s b n) (ex s b n) := by
 unfold av.f ex
 simp only [mt, Option.bind_some]
 have bad : Ev (fun k => av.j0 k s b n true) (([] : List Int), false) := by
  refine Ev.step (f := fun _ => some ([], false)) (fun k => ?_) (Ev.now _)
  simp only [av.j0, if_true]
 by_cases hb : 1 ≤ b ∧ b ≤ 12
 ·refine Ev.pos (by simpa using hb) ?_
  by_cases hn : 0 ≤ n ∧ n ≤ 1000
  ·refine Ev.pos (by simpa using hn) ?_
   obtain ⟨c, rfl⟩ : ∃ c : Nat, b = (c : Int) := ⟨b.toNat, by omega⟩
   obtain ⟨m, rfl⟩ : ∃ c : Nat, n = (c : Int) := ⟨n.toNat, by omega⟩
   rw [Int.toNat_natCast, Int.toNat_natCast, qa (by omega) (by omega)]
   by_cases hs : s.size = (m * c + 7) / 8
   ·rw [Da ⟨hb, hn, hs⟩, show (((s.size : Int) != (((m * c + 7) / 8 : Nat) : Int)) = false) by rw [bne_eq_false_iff_eq, hs]]
    have hmc : m * c = c * m := Nat.mul_comm _ _
    have hbn : c * m ≤ 12 * 1000 := Nat.mul_le_mul (by omega) (by omega)
    refine Ev.step (f := fun k => av.l0 k s (c : Int) [] (m : Int) 0) (fun k => ?_) ?_
    ·simp only [av.j0]
     rw [Ea (by decide)]
    ·refine Ev.up (g := fun i k => av.l0 k s (c : Int) (dn c (dr s) i) (m : Int) (i : Int)) (r := if dr s < 2 ^ (c * m) then (dn c (dr s) m, true) else ([], false)) m ?_ ?_ 0 (by omega)
     ·intro i hi h
      have hib : c * (i + 1) ≤ c * m := Nat.mul_le_mul_left _ hi
      have hbs : c * (i + 1) = c * i + c := Nat.mul_succ c i
      have hic : i * c = c * i := Nat.mul_comm _ _
      refine Ev.step (f := fun k => av.l1 k s (c : Int) (dn c (dr s) i) (i : Int) 0 (m : Int) (i : Int) (c : Int) 0) (fun k => ?_) ?_
      ·simp only [av.l0]
       rw [Da (by omega)]
      ·have key := Ev.up (g := fun j k => av.l1 k s (c : Int) (dn c (dr s) i) (i : Int) ((dr s / 2 ^ (c * i) % 2 ^ j : Nat) : Int) (m : Int) (i : Int) (c : Int) (j : Int)) (r := if dr s < 2 ^ (c * m) then (dn c (dr s) m, true) else ([], false)) c ?_ ?_ 0 (by omega)
       ·simpa [Nat.mod_one] using key
       ·intro j hj h'
        refine Ev.step (fun k => ?_) h'
        have n1 : c * i + j ≤ 4611686018427387904 := by omega
        have q0 : (c * i + j) / 8 < s.size := by omega
        have j12 : j ≤ 12 := by omega
        have n3 : (c * i + j) / 8 ≤ 9223372036854775807 := by omega
        have jw := dv j (by omega)
        have e1 := sF i c j n1
        have e2 : wrap64 (((c * i + j) / 8 : Nat) : Int) = (((c * i + j) / 8 : Nat) : Int) := g7 _ n3
        have e3 := mJ s ((c * i + j) / 8) q0
        have e4 := n9 (dr s) c i j j12
        simp only [av.l1]
        rw [e1, o7, rF, e2, Da (Int.ofNat_lt.mpr hj), Da (Int.natCast_nonneg _), Da (Int.ofNat_lt.mpr q0), Da (Int.natCast_nonneg _), Da (Int.natCast_nonneg _), e3, e4, jw]
       ·refine Ev.step (fun k => ?_) h
        simp only [av.l1]
        rw [Ea (by omega), Da (by rw [fi]; omega), dv i (by omega), ← j9]
     ·have hlt := o9 s
      have hpk : fl c (dn c (dr s) m) = strOfNums (cy s.size (dr s % 2 ^ (c * m))) := by
       unfold fl
       rw [fi, nY, hs]
      have hp := iA (dn c (dr s) m) c (by omega) (by omega) (by rw [fi]; omega) (ox _ _ _)
      rw [hpk] at hp
      refine Ev.step (f := fun k => (ay.f k (dn c (dr s) m) (c : Int)).bind fun t125 => (if t125.toList = s.toList then (some (dn c (dr s) m, true)) else (some (([] : List Int), false)))) (fun k => ?_) (Ev.bind hp ?_)
      ·simp only [av.l0]
       rw [Ea (by omega)]
      ·by_cases hq : dr s < 2 ^ (c * m)
       ·rw [Da hq]
        refine Ev.pos ?_ (Ev.now _)
        rw [Nat.mod_eq_of_lt hq, lR]
       ·rw [Ea hq]
        refine Ev.neg (fun h => hq ?_) (Ev.now _)
        rw [mP] at h
        have h2 : strOfNums (cy s.size (dr s % 2 ^ (c * m))) = strOfNums (cy s.size (dr s)) := h.trans (lR s).symm
        have h3 := pE (Nat.lt_of_le_of_lt (Nat.mod_le _ _) hlt) hlt h2
        rw [← h3]
        exact Nat.mod_lt _ (Nat.two_pow_pos _)
   ·rw [Ea (fun h => hs h.2.2), show (((s.size : Int) != (((m * c + 7) / 8 : Nat) : Int)) = true) by rw [bne_iff_ne]; omega]
    exact bad
  ·rw [Ea (fun h => hn h.2.1)]
   exact Ev.neg (by simpa using hn) bad
 ·rw [Ea (fun h => hb h.1)]
  exact Ev.neg (by simpa using hb) bad
def cU (s : ByteArray) : List Int × Bool := if (ex s 12 256).2 = true ∧ dm (ex s 12 256).1 = true then ((ex s 12 256).1, true) else ([], false)
theorem eR (s : ByteArray) (b n : Int) : (ex s b n).1.length ≤ 1000 := by
 unfold ex
 split
 ·split
  ·rw [fi]; omega
  ·simp
 ·simp
theorem iS (s : ByteArray) : (cU s).1.length ≤ 1000 := by
 have := eR s 12 256
 unfold cU
 split
 ·exact this
 ·simp
theorem gP (s : ByteArray) : Ev (fun k => ch.f k s) (cU s) := by
 unfold ch.f cU
 refine Ev.bind (ir s 12 256) ?_
 by_cases h : (ex s 12 256).2 = true
 ·refine Ev.pos h (Ev.bind (bS _) ?_)
  by_cases h2 : dm (ex s 12 256).1 = true
  ·refine Ev.pos h2 ?_
   rw [Da ⟨h, h2⟩]; exact Ev.now _
  ·refine Ev.neg h2 ?_
   rw [Ea (fun h3 => h2 h3.2)]; exact Ev.now _
 ·rw [Ea (fun h3 => h h3.1)]
  exact Ev.neg h (Ev.now _)
theorem gV (s : ByteArray) : Ev (fun k => ci.f k s) (cU s) := by
 unfold ci.f cU
 refine Ev.bind (fL s 12 256) ?_
 by_cases h : (ex s 12 256).2 = true
 ·refine Ev.pos h (Ev.bind (bT _ (by have := eR s 12 256; omega)) ?_)
  by_cases h2 : dm (ex s 12 256).1 = true
  ·refine Ev.pos h2 ?_
   rw [Da ⟨h, h2⟩]; exact Ev.now _
  ·refine Ev.neg h2 ?_
   rw [Ea (fun h3 => h2 h3.2)]; exact Ev.now _
 ·rw [Ea (fun h3 => h h3.1)]
  exact Ev.neg h (Ev.now _)
theorem EqQ.pow {x y : Int} (h : EqQ x y) (n : Nat) : EqQ (x ^ n) (y ^ n) := by
 induction n with
 | zero => rw [Int.pow_zero, Int.pow_zero]; exact EqQ.refl _
 | succ n ih => rw [Int.pow_succ, Int.pow_succ]; exact EqQ.mul ih h
theorem jm (b : Int) (e : Nat) : b ^ e = (b * b) ^ (e / 2) * b ^ (e % 2) := by
 have h1 : ∀ n : Nat, (b * b) ^ n = b ^ (2 * n) := by
  intro n
  induction n with
  | zero => rw [Nat.mul_zero, Int.pow_zero, Int.pow_zero]
  | succ n ih => rw [Int.pow_succ, ih, show 2 * (n + 1) = 2 * n + 1 + 1 by omega, Int.pow_succ, Int.pow_succ, Int.mul_assoc]
 rw [h1, ← Int.pow_add]
 congr 1
 omega
def pw (b : Int) (e : Nat) : Int := b ^ e % 3329
theorem rG (b : Int) (e : Nat) : 0 ≤ pw b e ∧ pw b e ≤ 3328 := fD _
theorem ik {x y : Int} (hx : 0 ≤ x ∧ x ≤ 3328) (hy : 0 ≤ y ∧ y ≤ 3328) : Int.tmod (wrap64 (x * y)) 3329 = x * y % 3329 := by
 have := fB hx hy
 rw [w64 (x := x * y) (by omega) (by omega), Int.tmod_eq_emod_of_nonneg (by omega)]
theorem jl (e : Nat) (h : e ≤ 1000000000) : wrap64 (Int.tdiv (e : Int) 2) = ((e / 2 : Nat) : Int) := by
 rw [Int.tdiv_eq_ediv_of_nonneg (by omega), w64 (by omega) (by omega)]; rfl
theorem mh (e : Nat) : Int.tmod (e : Int) 2 = ((e % 2 : Nat) : Int) := by
 rw [Int.tmod_eq_emod_of_nonneg (by omega)]; rfl
theorem mN (d : Nat) : ∀ (e : Nat) (b out : Int), e ≤ d → e ≤ 1000000000 → 0 ≤ b ∧ b ≤ 3328 → 0 ≤ out ∧ out ≤ 3328 → Ev (fun k => bB.l0 k b (e : Int) out) (out * b ^ e % 3329) := by
 induction d with
 | zero =>
  intro e b out hd _ hb ho
  obtain rfl : e = 0 := by omega
  refine Ev.step (f := fun _ => some (out * b ^ 0 % 3329)) (fun k => ?_) (Ev.now _)
  simp only [bB.l0]
  rw [Ea (by omega), Int.pow_zero, Int.mul_one, Int.emod_eq_of_lt ho.1 (by omega)]
 | succ d ih =>
  intro e b out hd he hb ho
  by_cases h0 : e = 0
  ·subst h0
   refine Ev.step (f := fun _ => some (out * b ^ 0 % 3329)) (fun k => ?_) (Ev.now _)
   simp only [bB.l0]
   rw [Ea (by omega), Int.pow_zero, Int.mul_one, Int.emod_eq_of_lt ho.1 (by omega)]
  ·by_cases h1 : e % 2 = 1
   ·have h := ih (e / 2) (b * b % 3329) (out * b % 3329) (by omega) (by omega) (fD _) (fD _)
    have e1 : out * b % 3329 * (b * b % 3329) ^ (e / 2) % 3329 = out * b ^ e % 3329 := by
     refine EqQ.eqm ?_
     refine (EqQ.mul (EqQ.mod _) (EqQ.pow (EqQ.mod _) _)).trans (EqQ.of ?_)
     rw [jm b e, h1, Int.pow_one, Int.mul_assoc, Int.mul_comm b]
    rw [e1] at h
    refine Ev.step (fun k => ?_) h
    simp only [bB.l0]
    rw [Da (by omega), mh, Da (by omega), ik hb hb, ik ho hb, jl e he]
   ·have h := ih (e / 2) (b * b % 3329) out (by omega) (by omega) (fD _) ho
    have e1 : out * (b * b % 3329) ^ (e / 2) % 3329 = out * b ^ e % 3329 := by
     refine EqQ.eqm ?_
     refine (EqQ.mul (EqQ.refl _) (EqQ.pow (EqQ.mod _) _)).trans (EqQ.of ?_)
     rw [jm b e, show e % 2 = 0 by omega, Int.pow_zero, Int.mul_one]
    rw [e1] at h
    refine Ev.step (fun k => ?_) h
    simp only [bB.l0]
    rw [Da (by omega), mh, Ea (by omega), ik hb hb, jl e he]
theorem mE (d : Nat) : ∀ (e : Nat) (b out : Int), e ≤ d → e ≤ 1000000000 → 0 ≤ b ∧ b ≤ 3328 → 0 ≤ out ∧ out ≤ 3328 → Ev (fun k => br.l0 k b (e : Int) out) (out * b ^ e % 3329) := by
 induction d with
 | zero =>
  intro e b out hd _ hb ho
  obtain rfl : e = 0 := by omega
  refine Ev.step (f := fun _ => some (out * b ^ 0 % 3329)) (fun k => ?_) (Ev.now _)
  simp only [br.l0]
  rw [Ea (by omega), Int.pow_zero, Int.mul_one, Int.emod_eq_of_lt ho.1 (by omega)]
 | succ d ih =>
  intro e b out hd he hb ho
  by_cases h0 : e = 0
  ·subst h0
   refine Ev.step (f := fun _ => some (out * b ^ 0 % 3329)) (fun k => ?_) (Ev.now _)
   simp only [br.l0]
   rw [Ea (by omega), Int.pow_zero, Int.mul_one, Int.emod_eq_of_lt ho.1 (by omega)]
  ·by_cases h1 : e % 2 = 1
   ·have h := ih (e / 2) (b * b % 3329) (out * b % 3329) (by omega) (by omega) (fD _) (fD _)
    have e1 : out * b % 3329 * (b * b % 3329) ^ (e / 2) % 3329 = out * b ^ e % 3329 := by
     refine EqQ.eqm ?_
     refine (EqQ.mul (EqQ.mod _) (EqQ.pow (EqQ.mod _) _)).trans (EqQ.of ?_)
     rw [jm b e, h1, Int.pow_one, Int.mul_assoc, Int.mul_comm b]
    rw [e1] at h
    refine Ev.step (fun k => ?_) h
    simp only [br.l0]
    rw [Da (by omega), mh, Da (by omega), ik hb hb, ik ho hb, jl e he]
   ·have h := ih (e / 2) (b * b % 3329) out (by omega) (by omega) (fD _) ho
    have e1 : out * (b * b % 3329) ^ (e / 2) % 3329 = out * b ^ e % 3329 := by
     refine EqQ.eqm ?_
     refine (EqQ.mul (EqQ.refl _) (EqQ.pow (EqQ.mod _) _)).trans (EqQ.of ?_)
     rw [jm b e, show e % 2 = 0 by omega, Int.pow_zero, Int.mul_one]
    rw [e1] at h
    refine Ev.step (fun k => ?_) h
    simp only [br.l0]
    rw [Da (by omega), mh, Ea (by omega), ik hb hb, jl e he]
theorem hD (b : Int) (hb : 0 ≤ b ∧ b ≤ 3328) (e : Nat) (he : e ≤ 1000000000) : Ev (fun k => bB.f k b (e : Int)) (pw b e) := by
 unfold bB.f
 simp only [mt, Option.bind_some]
 refine Ev.pos (wa ⟨by omega, by omega⟩) (Ev.then (fV b (by omega) (by omega)) ?_)
 have h := mN e e b 1 (Aa _) he hb (by omega)
 rw [Int.one_mul] at h
 rw [Int.emod_eq_of_lt hb.1 (by omega)]
 exact h
theorem g5 (b : Int) (hb : 0 ≤ b ∧ b ≤ 3328) (e : Nat) (he : e ≤ 1000000000) : Ev (fun k => br.f k b (e : Int)) (pw b e) := by
 unfold br.f
 simp only [fI, Option.bind_some]
 have hm : Int.tmod b 3329 = b := by rw [Int.tmod_eq_emod_of_nonneg hb.1, Int.emod_eq_of_lt hb.1 (by omega)]
 rw [hm]
 refine Ev.pos (wa ⟨by omega, by omega⟩) (Ev.neg (by omega) ?_)
 have h := mE e e b 1 (Aa _) he hb (by omega)
 rw [Int.one_mul] at h
 refine Ev.step (fun k => ?_) h
 simp only [br.j0]
/-- The first i of seven bits, turned around. -/
def t7s (n : Nat) : Nat → Nat
 | 0 => 0
 | i + 1 => 2 * t7s n i + n / 2 ^ i % 2
theorem qp (n i : Nat) : t7s n i < 2 ^ i := by
 induction i with
 | zero => simp [t7s]
 | succ i ih => simp only [t7s, Nat.pow_succ]; omega
theorem mD (n : Nat) : t7s n 7 < 128 := qp n 7
theorem rR (n i : Nat) (h : i ≤ 7) : t7s n i ≤ 128 := by
 have h1 := qp n i
 have h2 : 2 ^ i ≤ 2 ^ 7 := Nat.pow_le_pow_right (by omega) h
 omega
theorem mA (n i : Nat) (h : i ≤ 7) : wrap64 ((wrap64 (2 * ((t7s n i : Nat) : Int))) + ((n / 2 ^ i % 2 : Nat) : Int)) = ((t7s n (i + 1) : Nat) : Int) := by
 have h1 := rR n i h
 have h2 : n / 2 ^ i % 2 ≤ 1 := by omega
 obtain ⟨u, hu⟩ : ∃ u, n / 2 ^ i % 2 = u := ⟨_, rfl⟩
 obtain ⟨v, hv⟩ : ∃ v, t7s n i = v := ⟨_, rfl⟩
 simp only [t7s]
 rw [hu] at h2 ⊢
 rw [hv] at h1 ⊢
 rw [w64 (x := 2 * (v : Int)) (by omega) (by omega), w64 (by omega) (by omega)]
 omega
theorem gB (n : Nat) (hn : n < 128) : Ev (fun k => bw.f k (n : Int)) ((t7s n 7 : Nat) : Int) := by
 unfold bw.f
 refine Ev.up (g := fun i k => bw.l0 k (n : Int) ((t7s n i : Nat) : Int) (i : Int)) 7 ?_ ?_ 0 (by omega)
 ·intro i hi h
  refine Ev.step (fun k => ?_) h
  have e1 : shr .i64 (n : Int) (i : Int) = ((n / 2 ^ i : Nat) : Int) := kT .i64 n i (by simp [IntKind.bits]; omega)
  have e2 := nH (n / 2 ^ i) (Nat.lt_of_le_of_lt (Nat.div_le_self _ _) (Nat.lt_trans hn (by decide)))
  have e3 := mA n i (Nat.le_of_lt hi)
  have e4 := dv i (Nat.lt_trans hi (by decide))
  simp only [bw.l0]
  rw [Da (show (i : Int) < 7 from Int.ofNat_lt.mpr hi), Da (Int.natCast_nonneg _), e1, e2, e3, e4]
 ·refine Ev.step (f := fun _ => some ((t7s n 7 : Nat) : Int)) (fun k => ?_) (Ev.now _)
  simp only [bw.l0]
  rw [Ea (by omega)]
theorem gE (n : Nat) (hn : n < 128) : Ev (fun k => bi.f k (n : Int)) ((t7s n 7 : Nat) : Int) := by
 unfold bi.f
 have hm : Int.tmod (n : Int) 128 = (n : Int) := by rw [Int.tmod_eq_emod_of_nonneg (by omega), Int.emod_eq_of_lt (by omega) (by omega)]
 rw [hm]
 refine Ev.neg (by omega) ?_
 refine Ev.step (f := fun k => bi.l0 k (n : Int) 0 0) (fun k => ?_) ?_
 ·simp only [bi.j0]
 ·have key := Ev.up (g := fun i k => bi.l0 k ((n / 2 ^ i : Nat) : Int) ((t7s n i : Nat) : Int) (i : Int)) (r := ((t7s n 7 : Nat) : Int)) 7 ?_ ?_ 0 (by omega)
  ·simpa [t7s] using key
  ·intro i hi h
   refine Ev.step (fun k => ?_) h
   have e1 : Int.tmod ((n / 2 ^ i : Nat) : Int) 2 = ((n / 2 ^ i % 2 : Nat) : Int) := mh _
   have e2 := jl (n / 2 ^ i) (Nat.le_trans (Nat.div_le_self _ _) (Nat.le_trans (Nat.le_of_lt hn) (by decide)))
   have e3 := mA n i (Nat.le_of_lt hi)
   have e4 := dv i (Nat.lt_trans hi (by decide))
   have e5 : n / 2 ^ i / 2 = n / 2 ^ (i + 1) := by rw [Nat.div_div_eq_div_mul, Nat.pow_succ]
   simp only [bi.l0]
   rw [Da (show (i : Int) < 7 from Int.ofNat_lt.mpr hi), e1, e2, e3, e4, e5]
  ·refine Ev.step (f := fun _ => some ((t7s n 7 : Nat) : Int)) (fun k => ?_) (Ev.now _)
   simp only [bi.l0]
   rw [Ea (by omega)]
/-- The powers of 17 that the transforms take. -/
def zed (n : Nat) : Int := pw 17 (t7s n 7)
theorem mM (n : Nat) : 0 ≤ zed n ∧ zed n ≤ 3328 := rG _ _
theorem ku (a b : Nat) (h : a + b ≤ 100000) : wrap64 ((a : Int) + (b : Int)) = ((a + b : Nat) : Int) := by rw [w64 (by omega) (by omega)]; omega
theorem oF (a : Nat) (h : a ≤ 100000) : wrap64 (2 * (a : Int)) = ((2 * a : Nat) : Int) := by rw [w64 (by omega) (by omega)]; omega
theorem rE (a : Nat) (h : a ≤ 100000) : wrap64 (Int.tdiv (a : Int) 2) = ((a / 2 : Nat) : Int) := jl a (by omega)
theorem jB {x y : Int} (hx : 0 ≤ x ∧ x ≤ 3328) (hy : 0 ≤ y ∧ y ≤ 3328) : wrap64 (x * y) = x * y := by
 have := fB hx hy
 exact w64 (by omega) (by omega)
/-- A butterfly on the numbers from st on, s of them with the s behind; the first j of them done. -/
def bfp (z : Int) (s st j : Nat) (f : Nat → Int) : Nat → Int := fun n =>
 if st ≤ n ∧ n < st + j then (f n + z * f (n + s)) % 3329 else if st + s ≤ n ∧ n < st + s + j then (f (n - s) - z * f n) % 3329 else f n
theorem rx (z : Int) (s st : Nat) (f : Nat → Int) : bfp z s st 0 f = f := by
 funext n; unfold bfp; rw [Ea (by omega), Ea (by omega)]
theorem sa {z : Int} {s st j : Nat} {f : Nat → Int} (hf : ∀ i, 0 ≤ f i ∧ f i ≤ 3328) (n : Nat) : 0 ≤ bfp z s st j f n ∧ bfp z s st j f n ≤ 3328 := by
 unfold bfp
 split
 ·exact fD _
 ·split
  ·exact fD _
  ·exact hf n
theorem mW {z : Int} {s st j : Nat} {f : Nat → Int} (h : j < s) : bfp z s st j f (st + j) = f (st + j) := by
 unfold bfp; rw [Ea (by omega), Ea (by omega)]
theorem oV {z : Int} {s st j : Nat} {f : Nat → Int} : bfp z s st j f (st + j + s) = f (st + j + s) := by
 unfold bfp; rw [Ea (by omega), Ea (by omega)]
theorem nf (z : Int) (s st j : Nat) (f : Nat → Int) (hj : j < s) : ((vec (bfp z s st j f)).set (st + j) ((f (st + j) + z * f (st + j + s)) % 3329)).set (st + j + s) ((f (st + j) - z * f (st + j + s)) % 3329) = vec (bfp z s st (j + 1) f) := by
 rw [fm, fm]
 refine dD fun n _ => ?_
 by_cases h2 : n = st + j + s
 ·subst h2
  rw [Da rfl]
  unfold bfp
  rw [Ea (by omega), Da (by omega), show st + j + s - s = st + j by omega]
 ·rw [Ea h2]
  by_cases h1 : n = st + j
  ·subst h1
   rw [Da rfl]
   unfold bfp
   rw [Da (by omega)]
  ·rw [Ea h1]
   unfold bfp
   by_cases a : st ≤ n ∧ n < st + j
   ·rw [Da a, Da (by omega)]
   ·have a' : ¬ (st ≤ n ∧ n < st + (j + 1)) := by omega
    rw [Ea a, Ea a']
    by_cases b : st + s ≤ n ∧ n < st + s + j
    ·rw [Da b, Da (show st + s ≤ n ∧ n < st + s + (j + 1) by omega)]
    ·rw [Ea b, Ea (show ¬ (st + s ≤ n ∧ n < st + s + (j + 1)) by omega)]
theorem qd (z : Int) (s st j : Nat) (f : Nat → Int) (hs : 1 ≤ s) (A B : Int) : ((vec (bfp z s st j f)).set (st + j + s) B).set (st + j) A = ((vec (bfp z s st j f)).set (st + j) A).set (st + j + s) B :=
 List.set_comm _ _ (by omega)
/-- A layer: the first t butterflies of m, each of s and s numbers. -/
def lay (s m : Nat) : Nat → (Nat → Int) → Nat → Int
 | 0, f => f
 | t + 1, f => bfp (zed (m + t)) s (2 * s * t) s (lay s m t f)
theorem fH {s m : Nat} {f : Nat → Int} (hf : ∀ i, 0 ≤ f i ∧ f i ≤ 3328) (t : Nat) : ∀ n, 0 ≤ lay s m t f n ∧ lay s m t f n ≤ 3328 := by
 induction t with
 | zero => exact hf
 | succ t ih => exact fun n => sa ih n
def oC (f : Nat → Int) : Nat → Int := lay 2 64 64 (lay 4 32 32 (lay 8 16 16 (lay 16 8 8 (lay 32 4 4 (lay 64 2 2 (lay 128 1 1 f))))))
theorem nU (f : Nat → Int) (hf : ∀ i, 0 ≤ f i ∧ f i ≤ 3328) (z : Int) (hz : 0 ≤ z ∧ z ≤ 3328) (s st : Nat) (K : Int) (hs : 1 ≤ s) (hst : st + 2 * s ≤ 256) {r : List Int}
  (h : Ev (fun k => aM.l1 k (vec (bfp z s st s f)) K (s : Int) ((st + 2 * s : Nat) : Int)) r) : Ev (fun k => aM.l2 k (vec f) K (s : Int) (st : Int) z (st : Int)) r := by
 have e0 : vec f = vec (bfp z s st 0 f) := by rw [rx]
 have w1 := ku st s (by omega)
 rw [e0]
 refine Ev.up (g := fun j k => aM.l2 k (vec (bfp z s st j f)) K (s : Int) (st : Int) z ((st + j : Nat) : Int)) s ?_ ?_ 0 (by omega)
 ·intro j hj h'
  refine Ev.step (fun k => ?_) h'
  have c1 : st + j < st + s := Nat.add_lt_add_left hj _
  have c2 : st + j + s < 256 := Nat.lt_of_lt_of_le (Nat.add_lt_add_right c1 s) (Nat.le_trans (by rw [Nat.two_mul, Nat.add_assoc]; exact Aa _) hst)
  have c3 : st + j < 256 := Nat.lt_of_le_of_lt (Nat.le_add_right _ s) c2
  have w2 := ku (st + j) s (Nat.le_trans (Nat.le_of_lt c2) (by decide))
  have w3 : wrap64 (((st + j : Nat) : Int) + 1) = ((st + (j + 1) : Nat) : Int) := dv (st + j) (Nat.lt_trans c3 (by decide))
  have hm := fB hz (hf (st + j + s))
  have h1 := hf (st + j)
  simp only [aM.l2]
  rw [w1]
  clear e0 w1
  rw [Da (Int.ofNat_lt.mpr c1), w2, Da (Int.natCast_nonneg _), Da (by rw [bc]; exact Int.ofNat_lt.mpr c2), Da (Int.natCast_nonneg _), Da (by rw [bc]; exact Int.ofNat_lt.mpr c3), dt _ _ c3, dt _ _ c2, mW hj, oV, jB hz (hf _), w64 (x := f (st + j) + z * f (st + j + s)) (by omega) (by omega), w64 (x := f (st + j) - z * f (st + j + s)) (by omega) (by omega), fV _ (by omega) (by omega), Option.bind_some, fV _ (by omega) (by omega), Option.bind_some, Int.toNat_natCast, Int.toNat_natCast, nf z s st j f hj, w3]
 ·refine Ev.step (fun k => ?_) h
  have c1 : ¬ ((st + s : Nat) : Int) < ((st + s : Nat) : Int) := Int.lt_irrefl _
  have w4 := oF s (by clear w1; omega)
  have w5 := ku st (2 * s) (by clear w1 w4; omega)
  simp only [aM.l2]
  rw [w1, Ea c1, w4, w5]
theorem eu (s m : Nat) (hsm : 2 * s * m = 256) (hs : 1 ≤ s) (hm : 1 ≤ m) (f : Nat → Int) (hf : ∀ i, 0 ≤ f i ∧ f i ≤ 3328) (hs2 : 2 ≤ s) {r : List Int}
  (h : Ev (fun k => aM.l0 k (vec (lay s m m f)) ((2 * m : Nat) : Int) ((s / 2 : Nat) : Int)) r) : Ev (fun k => aM.l0 k (vec f) (m : Int) (s : Int)) r := by
 have hs128 : s ≤ 128 := by
  have : 2 * s * 1 ≤ 2 * s * m := Nat.mul_le_mul_left _ hm
  omega
 have hm128 : m ≤ 128 := by
  have : 2 * m ≤ 2 * s * m := Nat.mul_le_mul_right _ (by omega)
  omega
 refine Ev.step (f := fun k => aM.l1 k (vec f) (m : Int) (s : Int) 0) (fun k => ?_) ?_
 ·simp only [aM.l0]
  rw [Da (by omega)]
 ·refine Ev.up (g := fun t k => aM.l1 k (vec (lay s m t f)) ((m + t : Nat) : Int) (s : Int) ((2 * s * t : Nat) : Int)) m ?_ ?_ 0 (by omega)
  ·intro t ht h'
   have c0 : 2 * s * t + 2 * s ≤ 256 := by rw [← Nat.mul_succ, ← hsm]; exact Nat.mul_le_mul_left _ ht
   have ek : m + t < 128 := by
    have : 4 * m ≤ 2 * s * m := Nat.mul_le_mul_right _ (by omega)
    omega
   have w1 := dv (m + t) (Nat.lt_trans ek (by decide))
   have h2 := nU (lay s m t f) (fH hf t) (zed (m + t)) (mM _) s (2 * s * t) ((m + t + 1 : Nat) : Int) hs c0 h'
   have cond : ((2 * s * t : Nat) : Int) < 256 := by clear w1; omega
   refine Ev.step (f := fun k => (bw.f k ((m + t : Nat) : Int)).bind fun t287 => ((bB.f k 17 t287).bind fun t288 => (aM.l2 k (vec (lay s m t f)) (wrap64 (((m + t : Nat) : Int) + 1)) (s : Int) ((2 * s * t : Nat) : Int) t288 ((2 * s * t : Nat) : Int)))) (fun k => ?_) ?_
   ·simp only [aM.l1]
    rw [Da cond]
   ·rw [w1]
    exact Ev.bind (gB (m + t) ek) (Ev.bind (hD 17 (by decide) _ (Nat.le_trans (Nat.le_of_lt (mD _)) (by decide))) h2)
  ·refine Ev.step (fun k => ?_) h
   have w1 := rE s (by omega)
   have c1 : ¬ ((2 * s * m : Nat) : Int) < 256 := by clear w1; omega
   simp only [aM.l1]
   rw [Ea c1, w1, show m + m = 2 * m by rw [Nat.two_mul]]
theorem nw (f : Nat → Int) (hf : ∀ i, 0 ≤ f i ∧ f i ≤ 3328) : Ev (fun k => aM.f k (vec f)) (vec (oC f)) := by
 have core : Ev (fun k => aM.l0 k (vec f) 1 128) (vec (oC f)) := by
  have i1 := fH (s := 128) (m := 1) hf 1
  have i2 := fH (s := 64) (m := 2) i1 2
  have i3 := fH (s := 32) (m := 4) i2 4
  have i4 := fH (s := 16) (m := 8) i3 8
  have i5 := fH (s := 8) (m := 16) i4 16
  have i6 := fH (s := 4) (m := 32) i5 32
  refine eu 128 1 (by decide) (by decide) (by decide) f hf (by decide) ?_
  refine eu 64 2 (by decide) (by decide) (by decide) _ i1 (by decide) ?_
  refine eu 32 4 (by decide) (by decide) (by decide) _ i2 (by decide) ?_
  refine eu 16 8 (by decide) (by decide) (by decide) _ i3 (by decide) ?_
  refine eu 8 16 (by decide) (by decide) (by decide) _ i4 (by decide) ?_
  refine eu 4 32 (by decide) (by decide) (by decide) _ i5 (by decide) ?_
  refine eu 2 64 (by decide) (by decide) (by decide) _ i6 (by decide) ?_
  refine Ev.step (f := fun _ => some (vec (oC f))) (fun k => ?_) (Ev.now _)
  simp only [aM.l0]
  rw [Ea (by decide)]
  rfl
 unfold aM.f
 have ok := fd (f := f) fun i _ => hf i
 have ln := bc f
 refine Ev.bind (ok ▸ bT (vec f) (by omega)) (Ev.pos rfl ?_)
 refine Ev.then (a := vec f) ?_ core
 unfold dp.f
 rw [Da (by rw [ln]; decide), List.nil_append]
theorem nR (f : Nat → Int) (hf : ∀ i, 0 ≤ f i ∧ f i ≤ 3328) (z : Int) (hz : 0 ≤ z ∧ z ≤ 3328) (s st : Nat) (K : Int) (hs : 1 ≤ s) (hst : st + 2 * s ≤ 256) {r : List Int}
  (h : Ev (fun k => bh.l1 k (vec (bfp z s st s f)) K (s : Int) ((st + 2 * s : Nat) : Int)) r) : Ev (fun k => bh.l2 k (vec f) K (s : Int) (st : Int) z (st : Int)) r := by
 have e0 : vec f = vec (bfp z s st 0 f) := by rw [rx]
 have w1 := ku st s (by omega)
 rw [e0]
 refine Ev.up (g := fun j k => bh.l2 k (vec (bfp z s st j f)) K (s : Int) (st : Int) z ((st + j : Nat) : Int)) s ?_ ?_ 0 (by omega)
 ·intro j hj h'
  refine Ev.step (fun k => ?_) h'
  have c1 : st + j < st + s := Nat.add_lt_add_left hj _
  have c2 : st + j + s < 256 := Nat.lt_of_lt_of_le (Nat.add_lt_add_right c1 s) (Nat.le_trans (by rw [Nat.two_mul, Nat.add_assoc]; exact Aa _) hst)
  have c3 : st + j < 256 := Nat.lt_of_le_of_lt (Nat.le_add_right _ s) c2
  have w2 := ku (st + j) s (Nat.le_trans (Nat.le_of_lt c2) (by decide))
  have w3 : wrap64 (((st + j : Nat) : Int) + 1) = ((st + (j + 1) : Nat) : Int) := dv (st + j) (Nat.lt_trans c3 (by decide))
  have hm := fB hz (hf (st + j + s))
  have h1 := hf (st + j)
  simp only [bh.l2, Option.bind_some]
  rw [w1]
  clear e0 w1
  rw [Da (Int.ofNat_lt.mpr c1), w2, Da (Int.natCast_nonneg _), Da (by rw [bc]; exact Int.ofNat_lt.mpr c2), Da (Int.natCast_nonneg _), Da (by rw [bc]; exact Int.ofNat_lt.mpr c3), dt _ _ c3, dt _ _ c2, mW hj, oV, ik hz (hf _), Int.toNat_natCast, Int.toNat_natCast, fm, dt _ _ c3, Ea (show ¬ st + j = st + j + s by omega), mW hj, ← fm]
  rw [show Int.tmod (wrap64 ((wrap64 (f (st + j) - z * f (st + j + s) % 3329)) + 3329)) 3329 = (f (st + j) - z * f (st + j + s)) % 3329 by
   rw [w64 (x := f (st + j) - z * f (st + j + s) % 3329) (by omega) (by omega), w64 (by omega) (by omega), Int.tmod_eq_emod_of_nonneg (by omega)]; omega]
  rw [show Int.tmod (wrap64 (f (st + j) + z * f (st + j + s) % 3329)) 3329 = (f (st + j) + z * f (st + j + s)) % 3329 by
   rw [w64 (by omega) (by omega), Int.tmod_eq_emod_of_nonneg (by omega)]; omega]
  rw [qd z s st j f hs, nf z s st j f hj, w3]
 ·refine Ev.step (fun k => ?_) h
  have c1 : ¬ ((st + s : Nat) : Int) < ((st + s : Nat) : Int) := Int.lt_irrefl _
  have w4 := oF s (by clear w1; omega)
  have w5 := ku st (2 * s) (by clear w1 w4; omega)
  simp only [bh.l2]
  rw [w1, Ea c1, w4, w5]
theorem eB (s m : Nat) (hsm : 2 * s * m = 256) (hs : 1 ≤ s) (hm : 1 ≤ m) (f : Nat → Int) (hf : ∀ i, 0 ≤ f i ∧ f i ≤ 3328) (hs2 : 2 ≤ s) {r : List Int}
  (h : Ev (fun k => bh.l0 k (vec (lay s m m f)) ((2 * m : Nat) : Int) ((s / 2 : Nat) : Int)) r) : Ev (fun k => bh.l0 k (vec f) (m : Int) (s : Int)) r := by
 have hs128 : s ≤ 128 := by
  have : 2 * s * 1 ≤ 2 * s * m := Nat.mul_le_mul_left _ hm
  omega
 have hm128 : m ≤ 128 := by
  have : 2 * m ≤ 2 * s * m := Nat.mul_le_mul_right _ (by omega)
  omega
 refine Ev.step (f := fun k => bh.l1 k (vec f) (m : Int) (s : Int) 0) (fun k => ?_) ?_
 ·simp only [bh.l0]
  rw [Da (by omega)]
 ·refine Ev.up (g := fun t k => bh.l1 k (vec (lay s m t f)) ((m + t : Nat) : Int) (s : Int) ((2 * s * t : Nat) : Int)) m ?_ ?_ 0 (by omega)
  ·intro t ht h'
   have c0 : 2 * s * t + 2 * s ≤ 256 := by rw [← Nat.mul_succ, ← hsm]; exact Nat.mul_le_mul_left _ ht
   have ek : m + t < 128 := by
    have : 4 * m ≤ 2 * s * m := Nat.mul_le_mul_right _ (by omega)
    omega
   have w1 := dv (m + t) (Nat.lt_trans ek (by decide))
   have h2 := nR (lay s m t f) (fH hf t) (zed (m + t)) (mM _) s (2 * s * t) ((m + t + 1 : Nat) : Int) hs c0 h'
   have cond : ((2 * s * t : Nat) : Int) < 256 := by clear w1; omega
   refine Ev.step (f := fun k => (bi.f k ((m + t : Nat) : Int)).bind fun t287 => ((br.f k 17 t287).bind fun t288 => (bh.l2 k (vec (lay s m t f)) (wrap64 (((m + t : Nat) : Int) + 1)) (s : Int) ((2 * s * t : Nat) : Int) t288 ((2 * s * t : Nat) : Int)))) (fun k => ?_) ?_
   ·simp only [bh.l1]
    rw [Da cond]
   ·rw [w1]
    exact Ev.bind (gE (m + t) ek) (Ev.bind (g5 17 (by decide) _ (Nat.le_trans (Nat.le_of_lt (mD _)) (by decide))) h2)
  ·refine Ev.step (fun k => ?_) h
   have w1 := rE s (by omega)
   have c1 : ¬ ((2 * s * m : Nat) : Int) < 256 := by clear w1; omega
   simp only [bh.l1]
   rw [Ea c1, w1, show m + m = 2 * m by rw [Nat.two_mul]]
theorem nt (f : Nat → Int) (hf : ∀ i, 0 ≤ f i ∧ f i ≤ 3328) : Ev (fun k => bh.f k (vec f)) (vec (oC f)) := by
 have core : Ev (fun k => bh.l0 k (vec f) 1 128) (vec (oC f)) := by
  have i1 := fH (s := 128) (m := 1) hf 1
  have i2 := fH (s := 64) (m := 2) i1 2
  have i3 := fH (s := 32) (m := 4) i2 4
  have i4 := fH (s := 16) (m := 8) i3 8
  have i5 := fH (s := 8) (m := 16) i4 16
  have i6 := fH (s := 4) (m := 32) i5 32
  refine eB 128 1 (by decide) (by decide) (by decide) f hf (by decide) ?_
  refine eB 64 2 (by decide) (by decide) (by decide) _ i1 (by decide) ?_
  refine eB 32 4 (by decide) (by decide) (by decide) _ i2 (by decide) ?_
  refine eB 16 8 (by decide) (by decide) (by decide) _ i3 (by decide) ?_
  refine eB 8 16 (by decide) (by decide) (by decide) _ i4 (by decide) ?_
  refine eB 4 32 (by decide) (by decide) (by decide) _ i5 (by decide) ?_
  refine eB 2 64 (by decide) (by decide) (by decide) _ i6 (by decide) ?_
  refine Ev.step (f := fun _ => some (vec (oC f))) (fun k => ?_) (Ev.now _)
  simp only [bh.l0]
  rw [Ea (by decide)]
  rfl
 unfold bh.f
 have ok := fd (f := f) fun i _ => hf i
 have ln := bc f
 refine Ev.bind (ok ▸ bS (vec f)) (Ev.pos rfl ?_)
 simp only [Option.bind_some]
 refine Ev.pos (by rw [ln]; decide) ?_
 rw [List.nil_append]
 exact core
/-- A butterfly back on the numbers from st on, s of them with the s behind; the first j of them done. -/
def bfi (z : Int) (s st j : Nat) (f : Nat → Int) : Nat → Int := fun n =>
 if st ≤ n ∧ n < st + j then (f n + f (n + s)) % 3329 else if st + s ≤ n ∧ n < st + s + j then (z * (f n - f (n - s))) % 3329 else f n
theorem rJ (z : Int) (s st : Nat) (f : Nat → Int) : bfi z s st 0 f = f := by
 funext n; unfold bfi; rw [Ea (by omega), Ea (by omega)]
theorem rV {z : Int} {s st j : Nat} {f : Nat → Int} (hf : ∀ i, 0 ≤ f i ∧ f i ≤ 3328) (n : Nat) : 0 ≤ bfi z s st j f n ∧ bfi z s st j f n ≤ 3328 := by
 unfold bfi
 split
 ·exact fD _
 ·split
  ·exact fD _
  ·exact hf n
theorem oM {z : Int} {s st j : Nat} {f : Nat → Int} (h : j < s) : bfi z s st j f (st + j) = f (st + j) := by
 unfold bfi; rw [Ea (by omega), Ea (by omega)]
theorem mQ {z : Int} {s st j : Nat} {f : Nat → Int} : bfi z s st j f (st + j + s) = f (st + j + s) := by
 unfold bfi; rw [Ea (by omega), Ea (by omega)]
theorem nO (z : Int) (s st j : Nat) (f : Nat → Int) (hj : j < s) : ((vec (bfi z s st j f)).set (st + j) ((f (st + j) + f (st + j + s)) % 3329)).set (st + j + s) ((z * (f (st + j + s) - f (st + j))) % 3329) = vec (bfi z s st (j + 1) f) := by
 rw [fm, fm]
 refine dD fun n _ => ?_
 by_cases h2 : n = st + j + s
 ·subst h2
  rw [Da rfl]
  unfold bfi
  rw [Ea (by omega), Da (by omega), show st + j + s - s = st + j by omega]
 ·rw [Ea h2]
  by_cases h1 : n = st + j
  ·subst h1
   rw [Da rfl]
   unfold bfi
   rw [Da (by omega)]
  ·rw [Ea h1]
   unfold bfi
   by_cases a : st ≤ n ∧ n < st + j
   ·rw [Da a, Da (by omega)]
   ·have a' : ¬ (st ≤ n ∧ n < st + (j + 1)) := by omega
    rw [Ea a, Ea a']
    by_cases b : st + s ≤ n ∧ n < st + s + j
    ·rw [Da b, Da (show st + s ≤ n ∧ n < st + s + (j + 1) by omega)]
    ·rw [Ea b, Ea (show ¬ (st + s ≤ n ∧ n < st + s + (j + 1)) by omega)]
/-- A layer back: the first t butterflies of m, each of s and s numbers; the powers are taken from 2m-1 downwards. -/
def ib (s m : Nat) : Nat → (Nat → Int) → Nat → Int
 | 0, f => f
 | t + 1, f => bfi (zed (2 * m - 1 - t)) s (2 * s * t) s (ib s m t f)
theorem en {s m : Nat} {f : Nat → Int} (hf : ∀ i, 0 ≤ f i ∧ f i ≤ 3328) (t : Nat) : ∀ n, 0 ≤ ib s m t f n ∧ ib s m t f n ≤ 3328 := by
 induction t with
 | zero => exact hf
 | succ t ih => exact fun n => rV ih n
def qi (f : Nat → Int) : Nat → Int := fun n => ib 128 1 1 (ib 64 2 2 (ib 32 4 4 (ib 16 8 8 (ib 8 16 16 (ib 4 32 32 (ib 2 64 64 f)))))) n * 3303 % 3329
theorem mI {z x y : Int} (hz : 0 ≤ z ∧ z ≤ 3328) (hx : 0 ≤ x ∧ x ≤ 3328) (hy : 0 ≤ y ∧ y ≤ 3328) : -11075584 ≤ z * (y - x) ∧ z * (y - x) ≤ 11075584 := by
 have h1 := fB hz hx
 have h2 := fB hz hy
 rw [Int.mul_sub]
 omega
theorem kY (f : Nat → Int) (hf : ∀ i, 0 ≤ f i ∧ f i ≤ 3328) (z : Int) (hz : 0 ≤ z ∧ z ≤ 3328) (s st : Nat) (K : Int) (hs : 1 ≤ s) (hst : st + 2 * s ≤ 256) {r : List Int}
  (h : Ev (fun k => ai.l1 k (vec (bfi z s st s f)) K (s : Int) ((st + 2 * s : Nat) : Int)) r) : Ev (fun k => ai.l2 k (vec f) K (s : Int) (st : Int) z (st : Int)) r := by
 have e0 : vec f = vec (bfi z s st 0 f) := by rw [rJ]
 have w1 := ku st s (by omega)
 rw [e0]
 refine Ev.up (g := fun j k => ai.l2 k (vec (bfi z s st j f)) K (s : Int) (st : Int) z ((st + j : Nat) : Int)) s ?_ ?_ 0 (by omega)
 ·intro j hj h'
  refine Ev.step (fun k => ?_) h'
  have c1 : st + j < st + s := Nat.add_lt_add_left hj _
  have c2 : st + j + s < 256 := Nat.lt_of_lt_of_le (Nat.add_lt_add_right c1 s) (Nat.le_trans (by rw [Nat.two_mul, Nat.add_assoc]; exact Aa _) hst)
  have c3 : st + j < 256 := Nat.lt_of_le_of_lt (Nat.le_add_right _ s) c2
  have w2 := ku (st + j) s (Nat.le_trans (Nat.le_of_lt c2) (by decide))
  have w3 : wrap64 (((st + j : Nat) : Int) + 1) = ((st + (j + 1) : Nat) : Int) := dv (st + j) (Nat.lt_trans c3 (by decide))
  have h1 := hf (st + j)
  have h2 := hf (st + j + s)
  have hm := mI hz h1 h2
  simp only [ai.l2]
  rw [w1]
  clear e0 w1
  rw [Da (Int.ofNat_lt.mpr c1), w2, Da (Int.natCast_nonneg _), Da (by rw [bc]; exact Int.ofNat_lt.mpr c3), Da (Int.natCast_nonneg _), Da (by rw [bc]; exact Int.ofNat_lt.mpr c2), dt _ _ c3, dt _ _ c2, oM hj, mQ, w64 (x := f (st + j) + f (st + j + s)) (by omega) (by omega), w64 (x := f (st + j + s) - f (st + j)) (by omega) (by omega), w64 (x := z * (f (st + j + s) - f (st + j))) (by omega) (by omega), fV _ (by omega) (by omega), Option.bind_some, fV _ (by omega) (by omega), Option.bind_some, Int.toNat_natCast, Int.toNat_natCast, nO z s st j f hj, w3]
 ·refine Ev.step (fun k => ?_) h
  have c1 : ¬ ((st + s : Nat) : Int) < ((st + s : Nat) : Int) := Int.lt_irrefl _
  have w4 := oF s (by clear w1; omega)
  have w5 := ku st (2 * s) (by clear w1 w4; omega)
  simp only [ai.l2]
  rw [w1, Ea c1, w4, w5]
theorem rH (a : Nat) (h1 : 1 ≤ a) (h : a ≤ 100000) : wrap64 ((a : Int) - 1) = ((a - 1 : Nat) : Int) := by rw [w64 (by omega) (by omega)]; omega
theorem qB (a : Nat) (h : a ≤ 100000) : wrap64 ((a : Int) * 2) = ((a * 2 : Nat) : Int) := by rw [w64 (by omega) (by omega)]; omega
theorem dG (s m : Nat) (hsm : 2 * s * m = 256) (hs : 2 ≤ s) (hm : 1 ≤ m) (f : Nat → Int) (hf : ∀ i, 0 ≤ f i ∧ f i ≤ 3328) {r : List Int}
  (h : Ev (fun k => ai.l0 k (vec (ib s m m f)) ((2 * m - 1 - m : Nat) : Int) ((s * 2 : Nat) : Int)) r) : Ev (fun k => ai.l0 k (vec f) ((2 * m - 1 : Nat) : Int) (s : Int)) r := by
 have hs128 : s ≤ 128 := by
  have : 2 * s * 1 ≤ 2 * s * m := Nat.mul_le_mul_left _ hm
  omega
 have hm64 : 2 * m ≤ 128 := by
  have : 4 * m ≤ 2 * s * m := Nat.mul_le_mul_right _ (by omega)
  omega
 refine Ev.step (f := fun k => ai.l1 k (vec f) ((2 * m - 1 : Nat) : Int) (s : Int) 0) (fun k => ?_) ?_
 ·simp only [ai.l0]
  rw [Da (by omega)]
 ·refine Ev.up (g := fun t k => ai.l1 k (vec (ib s m t f)) ((2 * m - 1 - t : Nat) : Int) (s : Int) ((2 * s * t : Nat) : Int)) m ?_ ?_ 0 (by omega)
  ·intro t ht h'
   have c0 : 2 * s * t + 2 * s ≤ 256 := by rw [← Nat.mul_succ, ← hsm]; exact Nat.mul_le_mul_left _ ht
   have ek : 2 * m - 1 - t < 128 := by omega
   have w1 := rH (2 * m - 1 - t) (by omega) (by omega)
   have e1 : 2 * m - 1 - t - 1 = 2 * m - 1 - (t + 1) := by clear w1; omega
   rw [e1] at w1
   have h2 := kY (ib s m t f) (en hf t) (zed (2 * m - 1 - t)) (mM _) s (2 * s * t) ((2 * m - 1 - (t + 1) : Nat) : Int) (Nat.le_trans (by decide) hs) c0 h'
   have cond : ((2 * s * t : Nat) : Int) < 256 := by clear w1; omega
   refine Ev.step (f := fun k => (bw.f k ((2 * m - 1 - t : Nat) : Int)).bind fun t300 => ((bB.f k 17 t300).bind fun t301 => (ai.l2 k (vec (ib s m t f)) (wrap64 (((2 * m - 1 - t : Nat) : Int) - 1)) (s : Int) ((2 * s * t : Nat) : Int) t301 ((2 * s * t : Nat) : Int)))) (fun k => ?_) ?_
   ·simp only [ai.l1]
    rw [Da cond]
   ·rw [w1]
    exact Ev.bind (gB _ ek) (Ev.bind (hD 17 (by decide) _ (Nat.le_trans (Nat.le_of_lt (mD _)) (by decide))) h2)
  ·refine Ev.step (fun k => ?_) h
   have w1 := qB s (by omega)
   have c1 : ¬ ((2 * s * m : Nat) : Int) < 256 := by clear w1; omega
   simp only [ai.l1]
   rw [Ea c1, w1]
theorem po {z x y : Int} (hz : 0 ≤ z ∧ z ≤ 3328) (hx : 0 ≤ x ∧ x ≤ 3328) (hy : 0 ≤ y ∧ y ≤ 3328) : Int.tmod (wrap64 (z * (wrap64 ((wrap64 (y - x)) + 3329)))) 3329 = z * (y - x) % 3329 := by
 have h0 := mI hz hx hy
 have e : z * (y - x + 3329) = z * (y - x) + 3329 * z := by rw [Int.mul_add, Int.mul_comm z 3329]
 have hn : 0 ≤ z * (y - x + 3329) := Int.mul_nonneg hz.1 (by omega)
 rw [w64 (x := y - x) (by omega) (by omega), w64 (x := y - x + 3329) (by omega) (by omega), w64 (x := z * (y - x + 3329)) (by omega) (by omega), Int.tmod_eq_emod_of_nonneg hn, e]
 omega
theorem lF (f : Nat → Int) (hf : ∀ i, 0 ≤ f i ∧ f i ≤ 3328) (z : Int) (hz : 0 ≤ z ∧ z ≤ 3328) (s st : Nat) (K : Int) (hs : 1 ≤ s) (hst : st + 2 * s ≤ 256) {r : List Int}
  (h : Ev (fun k => am.l1 k (vec (bfi z s st s f)) K (s : Int) ((st + 2 * s : Nat) : Int)) r) : Ev (fun k => am.l2 k (vec f) K (s : Int) (st : Int) z (st : Int)) r := by
 have e0 : vec f = vec (bfi z s st 0 f) := by rw [rJ]
 have w1 := ku st s (by omega)
 rw [e0]
 refine Ev.up (g := fun j k => am.l2 k (vec (bfi z s st j f)) K (s : Int) (st : Int) z ((st + j : Nat) : Int)) s ?_ ?_ 0 (by omega)
 ·intro j hj h'
  refine Ev.step (fun k => ?_) h'
  have c1 : st + j < st + s := Nat.add_lt_add_left hj _
  have c2 : st + j + s < 256 := Nat.lt_of_lt_of_le (Nat.add_lt_add_right c1 s) (Nat.le_trans (by rw [Nat.two_mul, Nat.add_assoc]; exact Aa _) hst)
  have c3 : st + j < 256 := Nat.lt_of_le_of_lt (Nat.le_add_right _ s) c2
  have w2 := ku (st + j) s (Nat.le_trans (Nat.le_of_lt c2) (by decide))
  have w3 : wrap64 (((st + j : Nat) : Int) + 1) = ((st + (j + 1) : Nat) : Int) := dv (st + j) (Nat.lt_trans c3 (by decide))
  have h1 := hf (st + j)
  have h2 := hf (st + j + s)
  have hm := mI hz h1 h2
  have nj : ¬ st + j + s = st + j := by clear e0 w1 w2; omega
  have ey : ∀ v : Int, rd ((vec (bfi z s st j f)).set (st + j) v) ((st + j + s : Nat) : Int) = f (st + j + s) := by
   intro v
   rw [fm, dt _ _ c2, Ea nj, mQ]
  have em := po hz h1 h2
  simp only [am.l2, Option.bind_some]
  rw [w1]
  clear e0 w1
  rw [Da (Int.ofNat_lt.mpr c1), w2, Da (Int.natCast_nonneg _), Da (by rw [bc]; exact Int.ofNat_lt.mpr c3), Da (Int.natCast_nonneg _), Da (by rw [bc]; exact Int.ofNat_lt.mpr c2), Int.toNat_natCast, Int.toNat_natCast, ey, dt _ _ c3, oM hj, dt _ _ c2, mQ, em, w64 (x := f (st + j) + f (st + j + s)) (by omega) (by omega), Int.tmod_eq_emod_of_nonneg (show 0 ≤ f (st + j) + f (st + j + s) by omega), nO z s st j f hj, w3]
 ·refine Ev.step (fun k => ?_) h
  have c1 : ¬ ((st + s : Nat) : Int) < ((st + s : Nat) : Int) := Int.lt_irrefl _
  have w4 := oF s (by clear w1; omega)
  have w5 := ku st (2 * s) (by clear w1 w4; omega)
  simp only [am.l2]
  rw [w1, Ea c1, w4, w5]
theorem dF (s m : Nat) (hsm : 2 * s * m = 256) (hs : 2 ≤ s) (hm : 1 ≤ m) (f : Nat → Int) (hf : ∀ i, 0 ≤ f i ∧ f i ≤ 3328) {r : List Int}
  (h : Ev (fun k => am.l0 k (vec (ib s m m f)) ((2 * m - 1 - m : Nat) : Int) ((s * 2 : Nat) : Int)) r) : Ev (fun k => am.l0 k (vec f) ((2 * m - 1 : Nat) : Int) (s : Int)) r := by
 have hs128 : s ≤ 128 := by
  have : 2 * s * 1 ≤ 2 * s * m := Nat.mul_le_mul_left _ hm
  omega
 have hm64 : 2 * m ≤ 128 := by
  have : 4 * m ≤ 2 * s * m := Nat.mul_le_mul_right _ (by omega)
  omega
 refine Ev.step (f := fun k => am.l1 k (vec f) ((2 * m - 1 : Nat) : Int) (s : Int) 0) (fun k => ?_) ?_
 ·simp only [am.l0]
  rw [Da (by omega)]
 ·refine Ev.up (g := fun t k => am.l1 k (vec (ib s m t f)) ((2 * m - 1 - t : Nat) : Int) (s : Int) ((2 * s * t : Nat) : Int)) m ?_ ?_ 0 (by omega)
  ·intro t ht h'
   have c0 : 2 * s * t + 2 * s ≤ 256 := by rw [← Nat.mul_succ, ← hsm]; exact Nat.mul_le_mul_left _ ht
   have ek : 2 * m - 1 - t < 128 := by omega
   have w1 := rH (2 * m - 1 - t) (by omega) (by omega)
   have e1 : 2 * m - 1 - t - 1 = 2 * m - 1 - (t + 1) := by clear w1; omega
   rw [e1] at w1
   have h2 := lF (ib s m t f) (en hf t) (zed (2 * m - 1 - t)) (mM _) s (2 * s * t) ((2 * m - 1 - (t + 1) : Nat) : Int) (Nat.le_trans (by decide) hs) c0 h'
   have cond : ((2 * s * t : Nat) : Int) < 256 := by clear w1; omega
   refine Ev.step (f := fun k => (bi.f k ((2 * m - 1 - t : Nat) : Int)).bind fun t300 => ((br.f k 17 t300).bind fun t301 => (am.l2 k (vec (ib s m t f)) (wrap64 (((2 * m - 1 - t : Nat) : Int) - 1)) (s : Int) ((2 * s * t : Nat) : Int) t301 ((2 * s * t : Nat) : Int)))) (fun k => ?_) ?_
   ·simp only [am.l1]
    rw [Da cond]
   ·rw [w1]
    exact Ev.bind (gE _ ek) (Ev.bind (g5 17 (by decide) _ (Nat.le_trans (Nat.le_of_lt (mD _)) (by decide))) h2)
  ·refine Ev.step (fun k => ?_) h
   have w1 := qB s (by omega)
   have c1 : ¬ ((2 * s * m : Nat) : Int) < 256 := by clear w1; omega
   simp only [am.l1]
   rw [Ea c1, w1]
def jF (f : Nat → Int) (i : Nat) : Nat → Int := fun n => if n < i then f n * 3303 % 3329 else f n
theorem pY (f : Nat → Int) : jF f 0 = f := rfl
theorem nG (f : Nat → Int) : vec (jF f 256) = vec fun n => f n * 3303 % 3329 := dD fun _ hn => Da hn
theorem me (f : Nat → Int) (i : Nat) : (vec (jF f i)).set i (f i * 3303 % 3329) = vec (jF f (i + 1)) := by
 rw [fm]
 refine dD fun n _ => ?_
 unfold jF
 by_cases e : n = i
 ·subst e; rw [Da rfl, Da (by omega)]
 ·rw [Ea e]
  by_cases h : n < i
  ·rw [Da h, Da (by omega)]
  ·rw [Ea h, Ea (by omega)]
theorem lm (f : Nat → Int) (hf : ∀ i, 0 ≤ f i ∧ f i ≤ 3328) : Ev (fun k => ai.l3 k (vec f) ((256 : Nat) : Int) 0) (vec fun n => f n * 3303 % 3329) := by
 have e0 : vec f = vec (jF f 0) := by rw [pY]
 rw [e0]
 refine Ev.up (g := fun i k => ai.l3 k (vec (jF f i)) ((256 : Nat) : Int) (i : Int)) 256 ?_ ?_ 0 (by omega)
 ·intro i hi h
  refine Ev.step (fun k => ?_) h
  have hb := hf i
  have ei : jF f i i = f i := Ea (Nat.lt_irrefl _)
  simp only [ai.l3]
  rw [Da (by omega), Da (by omega), Da (by rw [bc]; omega), dt _ _ hi, ei, w64 (x := f i * 3303) (by omega) (by omega), fV _ (by omega) (by omega), Option.bind_some, Int.toNat_natCast, me, dv i (by omega)]
 ·refine Ev.step (f := fun _ => some (vec (jF f 256))) (fun k => ?_) ?_
  ·simp only [ai.l3]
   rw [Ea (by omega)]
  ·rw [nG]; exact Ev.now _
theorem le (f : Nat → Int) (hf : ∀ i, 0 ≤ f i ∧ f i ≤ 3328) : Ev (fun k => am.l3 k (vec f) 0) (vec fun n => f n * 3303 % 3329) := by
 have e0 : vec f = vec (jF f 0) := by rw [pY]
 rw [e0]
 refine Ev.up (g := fun i k => am.l3 k (vec (jF f i)) (i : Int)) 256 ?_ ?_ 0 (by omega)
 ·intro i hi h
  refine Ev.step (fun k => ?_) h
  have hb := hf i
  have ei : jF f i i = f i := Ea (Nat.lt_irrefl _)
  simp only [am.l3]
  rw [Da (by omega), Da (by omega), Da (by rw [bc]; omega), dt _ _ hi, ei, w64 (x := f i * 3303) (by omega) (by omega), Int.tmod_eq_emod_of_nonneg (show 0 ≤ f i * 3303 by omega), Int.toNat_natCast, me, dv i (by omega)]
 ·refine Ev.step (f := fun _ => some (vec (jF f 256))) (fun k => ?_) ?_
  ·simp only [am.l3]
   rw [Ea (by omega)]
  ·rw [nG]; exact Ev.now _
theorem lw (f : Nat → Int) (hf : ∀ i, 0 ≤ f i ∧ f i ≤ 3328) : Ev (fun k => ai.f k (vec f)) (vec (qi f)) := by
 have core : Ev (fun k => ai.l0 k (vec f) 127 2) (vec (qi f)) := by
  have i1 := en (s := 2) (m := 64) hf 64
  have i2 := en (s := 4) (m := 32) i1 32
  have i3 := en (s := 8) (m := 16) i2 16
  have i4 := en (s := 16) (m := 8) i3 8
  have i5 := en (s := 32) (m := 4) i4 4
  have i6 := en (s := 64) (m := 2) i5 2
  have i7 := en (s := 128) (m := 1) i6 1
  refine dG 2 64 (by decide) (by decide) (by decide) f hf ?_
  refine dG 4 32 (by decide) (by decide) (by decide) _ i1 ?_
  refine dG 8 16 (by decide) (by decide) (by decide) _ i2 ?_
  refine dG 16 8 (by decide) (by decide) (by decide) _ i3 ?_
  refine dG 32 4 (by decide) (by decide) (by decide) _ i4 ?_
  refine dG 64 2 (by decide) (by decide) (by decide) _ i5 ?_
  refine dG 128 1 (by decide) (by decide) (by decide) _ i6 ?_
  refine Ev.step (fun k => ?_) (lm _ i7)
  simp only [ai.l0]
  rw [Ea (by decide), bc]
 unfold ai.f
 have ok := fd (f := f) fun i _ => hf i
 have ln := bc f
 refine Ev.bind (ok ▸ bT (vec f) (by omega)) (Ev.pos rfl ?_)
 refine Ev.then (a := vec f) ?_ core
 unfold dp.f
 rw [Da (by rw [ln]; decide), List.nil_append]
theorem lr (f : Nat → Int) (hf : ∀ i, 0 ≤ f i ∧ f i ≤ 3328) : Ev (fun k => am.f k (vec f)) (vec (qi f)) := by
 have core : Ev (fun k => am.l0 k (vec f) 127 2) (vec (qi f)) := by
  have i1 := en (s := 2) (m := 64) hf 64
  have i2 := en (s := 4) (m := 32) i1 32
  have i3 := en (s := 8) (m := 16) i2 16
  have i4 := en (s := 16) (m := 8) i3 8
  have i5 := en (s := 32) (m := 4) i4 4
  have i6 := en (s := 64) (m := 2) i5 2
  have i7 := en (s := 128) (m := 1) i6 1
  refine dF 2 64 (by decide) (by decide) (by decide) f hf ?_
  refine dF 4 32 (by decide) (by decide) (by decide) _ i1 ?_
  refine dF 8 16 (by decide) (by decide) (by decide) _ i2 ?_
  refine dF 16 8 (by decide) (by decide) (by decide) _ i3 ?_
  refine dF 32 4 (by decide) (by decide) (by decide) _ i4 ?_
  refine dF 64 2 (by decide) (by decide) (by decide) _ i5 ?_
  refine dF 128 1 (by decide) (by decide) (by decide) _ i6 ?_
  refine Ev.step (fun k => ?_) (le _ i7)
  simp only [am.l0]
  rw [Ea (by decide)]
 unfold am.f
 have ok := fd (f := f) fun i _ => hf i
 have ln := bc f
 refine Ev.bind (ok ▸ bS (vec f)) (Ev.pos rfl ?_)
 simp only [Option.bind_some]
 refine Ev.pos (by rw [ln]; decide) ?_
 rw [List.nil_append]
 exact core
def gam (i : Nat) : Int := pw 17 (2 * t7s i 7 + 1)
theorem oq (i : Nat) : 0 ≤ gam i ∧ gam i ≤ 3328 := rG _ _
def mnE (a b : Nat → Int) (i : Nat) : Int := (a (2 * i) * b (2 * i) + a (2 * i + 1) * b (2 * i + 1) % 3329 * gam i) % 3329
def mnO (a b : Nat → Int) (i : Nat) : Int := (a (2 * i) * b (2 * i + 1) + a (2 * i + 1) * b (2 * i)) % 3329
def dl (a b : Nat → Int) (n : Nat) : Int := if n % 2 = 0 then mnE a b (n / 2) else mnO a b (n / 2)
theorem mc (a b : Nat → Int) (i : Nat) : dl a b (2 * i) = mnE a b i := by
 unfold dl; rw [Da (by omega), show 2 * i / 2 = i by omega]
theorem mm (a b : Nat → Int) (i : Nat) : dl a b (2 * i + 1) = mnO a b i := by
 unfold dl; rw [Ea (by omega), show (2 * i + 1) / 2 = i by omega]
theorem rI (i : Nat) : wrap64 ((wrap64 (2 * ((t7s i 7 : Nat) : Int))) + 1) = ((2 * t7s i 7 + 1 : Nat) : Int) := by
 have h := mD i
 have h1 : t7s i 7 ≤ 100000 := by omega
 have h2 : 2 * t7s i 7 < 9223372036854775807 := by omega
 rw [oF _ h1, dv _ h2]
theorem nA (i : Nat) : 2 * t7s i 7 + 1 ≤ 1000000000 := by have := mD i; omega
theorem rz (a b : Nat → Int) (ha : ∀ i, 0 ≤ a i ∧ a i ≤ 3328) (hb : ∀ i, 0 ≤ b i ∧ b i ≤ 3328) (i : Nat) :
  wrap64 ((wrap64 (a (2 * i) * b (2 * i))) + (wrap64 ((Int.tmod (wrap64 (a (2 * i + 1) * b (2 * i + 1))) 3329) * gam i))) = a (2 * i) * b (2 * i) + a (2 * i + 1) * b (2 * i + 1) % 3329 * gam i := by
 have h1 := fB (ha (2 * i)) (hb (2 * i))
 have h2 := fB (fD (a (2 * i + 1) * b (2 * i + 1))) (oq i)
 rw [ik (ha _) (hb _), jB (ha _) (hb _), jB (fD _) (oq i)]
 exact w64 (by omega) (by omega)
theorem nZ (a b : Nat → Int) (ha : ∀ i, 0 ≤ a i ∧ a i ≤ 3328) (hb : ∀ i, 0 ≤ b i ∧ b i ≤ 3328) (i : Nat) : 0 ≤ a (2 * i) * b (2 * i) + a (2 * i + 1) * b (2 * i + 1) % 3329 * gam i ∧ a (2 * i) * b (2 * i) + a (2 * i + 1) * b (2 * i + 1) % 3329 * gam i ≤ 9223372036854775807 := by
 have h1 := fB (ha (2 * i)) (hb (2 * i))
 have h2 := fB (fD (a (2 * i + 1) * b (2 * i + 1))) (oq i)
 omega
theorem ry (a b : Nat → Int) (ha : ∀ i, 0 ≤ a i ∧ a i ≤ 3328) (hb : ∀ i, 0 ≤ b i ∧ b i ≤ 3328) (i : Nat) :
  wrap64 ((wrap64 (a (2 * i) * b (2 * i + 1))) + (wrap64 (a (2 * i + 1) * b (2 * i)))) = a (2 * i) * b (2 * i + 1) + a (2 * i + 1) * b (2 * i) := by
 have h1 := fB (ha (2 * i)) (hb (2 * i + 1))
 have h2 := fB (ha (2 * i + 1)) (hb (2 * i))
 rw [jB (ha _) (hb _), jB (ha _) (hb _)]
 exact w64 (by omega) (by omega)
theorem qb (a b : Nat → Int) (ha : ∀ i, 0 ≤ a i ∧ a i ≤ 3328) (hb : ∀ i, 0 ≤ b i ∧ b i ≤ 3328) (i : Nat) : 0 ≤ a (2 * i) * b (2 * i + 1) + a (2 * i + 1) * b (2 * i) ∧ a (2 * i) * b (2 * i + 1) + a (2 * i + 1) * b (2 * i) ≤ 9223372036854775807 := by
 have h1 := fB (ha (2 * i)) (hb (2 * i + 1))
 have h2 := fB (ha (2 * i + 1)) (hb (2 * i))
 omega
theorem lf (a b : Nat → Int) (ha : ∀ i, 0 ≤ a i ∧ a i ≤ 3328) (hb : ∀ i, 0 ≤ b i ∧ b i ≤ 3328) : Ev (fun k => bg.f k (vec a) (vec b)) (vec (dl a b)) := by
 have core : Ev (fun k => bg.l0 k (vec a) (vec b) (List.replicate 256 0) 0) (vec (dl a b)) := by
  rw [gG]
  have key := Ev.up (g := fun i k => bg.l0 k (vec a) (vec b) (vec fun n => if n < 2 * i then dl a b n else 0) (i : Int)) (r := vec (dl a b)) 128 ?_ ?_ 0 (by omega)
  ·have e : (vec fun _ => (0 : Int)) = vec fun n => if n < 2 * 0 then dl a b n else 0 := dD fun n _ => by rw [Ea (by omega)]
   rw [e]; exact key
  ·intro i hi h
   obtain ⟨K1, h1⟩ := gB i hi 
   obtain ⟨K2, h2⟩ := hD 17 (by decide) (2 * t7s i 7 + 1) (nA i)
   obtain ⟨K3, h3⟩ := h
   refine ⟨K1 + K2 + K3 + 1, fun k hk => ?_⟩
   obtain ⟨m, rfl⟩ : ∃ m, k = m + 1 := ⟨k - 1, by omega⟩
   have e1 : bw.f m (i : Int) = some ((t7s i 7 : Nat) : Int) := h1 m (by omega)
   have e2 : bB.f m 17 ((2 * t7s i 7 + 1 : Nat) : Int) = some (pw 17 (2 * t7s i 7 + 1)) := h2 m (by omega)
   have e3 := h3 m (by omega)
   have c0 : 2 * i < 256 := by omega
   have c1 : 2 * i + 1 < 256 := by omega
   have b0 : i ≤ 100000 := by omega
   have b1 : 2 * i < 9223372036854775807 := by omega
   have b2 : i < 9223372036854775807 := by omega
   have be := nZ a b ha hb i
   have bo := qb a b ha hb i
   have bem : -9223372036854775808 ≤ a (2 * i) * b (2 * i) + a (2 * i + 1) * b (2 * i + 1) % 3329 * gam i := Int.le_trans (by decide) be.1
   have bom : -9223372036854775808 ≤ a (2 * i) * b (2 * i + 1) + a (2 * i + 1) * b (2 * i) := Int.le_trans (by decide) bo.1
   have ee : (vec fun n => if n = 2 * i + 1 then mnO a b i else if n = 2 * i then mnE a b i else if n < 2 * i then dl a b n else 0) = vec fun n => if n < 2 * (i + 1) then dl a b n else 0 := by
    refine dD fun n _ => ?_
    by_cases h1 : n = 2 * i + 1
    ·subst h1; rw [Da rfl, Da (by omega), mm]
    ·rw [Ea h1]
     by_cases h2 : n = 2 * i
     ·subst h2; rw [Da rfl, Da (by omega), mc]
     ·rw [Ea h2]
      by_cases h3 : n < 2 * i
      ·rw [Da h3, Da (by omega)]
      ·rw [Ea h3, Ea (by omega)]
   clear h1 h2 h3 hk be
   simp only [bg.l0]
   rw [Da (show (i : Int) < 128 from Int.ofNat_lt.mpr hi), e1, Option.bind_some, rI, e2, Option.bind_some, oF i b0, dv (2 * i) b1, Da (Int.natCast_nonneg _), bc, bc, bc, Da (Int.ofNat_lt.mpr c0), Da (Int.natCast_nonneg _), Da (Int.ofNat_lt.mpr c1), Da (Int.ofNat_lt.mpr c0), Da (Int.ofNat_lt.mpr c1),
    dt _ _ c0, dt _ _ c0, dt _ _ c1, dt _ _ c1]
   rw [show pw 17 (2 * t7s i 7 + 1) = gam i from rfl, rz a b ha hb i, ry a b ha hb i, fV _ bem (nZ a b ha hb i).2, Option.bind_some, Da (Int.ofNat_lt.mpr c0), fV _ bom bo.2, Option.bind_some, Da (Int.ofNat_lt.mpr c1), Int.toNat_natCast, Int.toNat_natCast, fm, fm, dv i b2]
   rw [show (a (2 * i) * b (2 * i) + a (2 * i + 1) * b (2 * i + 1) % 3329 * gam i) % 3329 = mnE a b i from rfl, show (a (2 * i) * b (2 * i + 1) + a (2 * i + 1) * b (2 * i)) % 3329 = mnO a b i from rfl, ee]
   exact e3
  ·refine Ev.step (f := fun _ => some (vec fun n => if n < 2 * 128 then dl a b n else 0)) (fun k => ?_) ?_
   ·simp only [bg.l0]
    rw [Ea (by decide)]
   ·rw [dD (g := dl a b) fun n hn => Da hn]; exact Ev.now _
 unfold bg.f
 have oka := fd (f := a) fun i _ => ha i
 have okb := fd (f := b) fun i _ => hb i
 have la := bc a
 have lb := bc b
 refine Ev.bind (oka ▸ bT (vec a) (by omega)) (Ev.pos rfl (Ev.bind (okb ▸ bT (vec b) (by omega)) ?_))
 refine Ev.step (fun k => ?_) core
 simp only [bg.j0]
 rw [Ea (by decide), Da (by decide)]
theorem kU (a b : Nat → Int) (ha : ∀ i, 0 ≤ a i ∧ a i ≤ 3328) (hb : ∀ i, 0 ≤ b i ∧ b i ≤ 3328) : Ev (fun k => az.f k (vec a) (vec b)) (vec (dl a b)) := by
 have core : Ev (fun k => az.l0 k (vec a) (vec b) [] 0) (vec (dl a b)) := by
  refine Ev.up (g := fun i k => az.l0 k (vec a) (vec b) ((vec (dl a b)).take (2 * i)) (i : Int)) (r := vec (dl a b)) 128 ?_ ?_ 0 (by omega)
  ·intro i hi h
   obtain ⟨K1, h1⟩ := gE i hi 
   obtain ⟨K2, h2⟩ := g5 17 (by decide) (2 * t7s i 7 + 1) (nA i)
   obtain ⟨K3, h3⟩ := h
   refine ⟨K1 + K2 + K3 + 1, fun k hk => ?_⟩
   obtain ⟨m, rfl⟩ : ∃ m, k = m + 1 := ⟨k - 1, by omega⟩
   have e1 : bi.f m (i : Int) = some ((t7s i 7 : Nat) : Int) := h1 m (by omega)
   have e2 : br.f m 17 ((2 * t7s i 7 + 1 : Nat) : Int) = some (pw 17 (2 * t7s i 7 + 1)) := h2 m (by omega)
   have e3 := h3 m (by omega)
   have c0 : 2 * i < 256 := by omega
   have c1 : 2 * i + 1 < 256 := by omega
   have b0 : i ≤ 100000 := by omega
   have b1 : 2 * i < 9223372036854775807 := by omega
   have b2 : i < 9223372036854775807 := by omega
   have be := nZ a b ha hb i
   have bo := qb a b ha hb i
   have ln : (List.take (2 * i) (vec (dl a b))).length + [mnE a b i, mnO a b i].length < 17592186044416 := by show _ + 2 < _; rw [List.length_take, bc]; omega
   have ee : List.take (2 * i) (vec (dl a b)) ++ [mnE a b i, mnO a b i] = List.take (2 * (i + 1)) (vec (dl a b)) := by
    have t1 := fU (vec (dl a b)) (2 * i) (by rw [bc]; exact c0)
    have t2 := fU (vec (dl a b)) (2 * i + 1) (by rw [bc]; exact c1)
    rw [fp, mc] at t1
    rw [fp, mm] at t2
    rw [show 2 * (i + 1) = 2 * i + 1 + 1 by omega, ← t2, ← t1, List.append_assoc]
    rfl
   clear h1 h2 h3 hk
   simp only [az.l0]
   rw [Da (show (i : Int) < 128 from Int.ofNat_lt.mpr hi), e1, Option.bind_some, rI, e2, Option.bind_some, oF i b0, dv (2 * i) b1, Da (Int.natCast_nonneg _), bc, bc, Da (Int.ofNat_lt.mpr c1), Da (Int.ofNat_lt.mpr c1), Da (Int.natCast_nonneg _), Da (Int.ofNat_lt.mpr c0), Da (Int.ofNat_lt.mpr c0),
    dt _ _ c0, dt _ _ c0, dt _ _ c1, dt _ _ c1, Option.bind_some]
   rw [show pw 17 (2 * t7s i 7 + 1) = gam i from rfl, rz a b ha hb i, ry a b ha hb i, Int.tmod_eq_emod_of_nonneg be.1, Int.tmod_eq_emod_of_nonneg bo.1, dv i b2]
   rw [show (a (2 * i) * b (2 * i) + a (2 * i + 1) * b (2 * i + 1) % 3329 * gam i) % 3329 = mnE a b i from rfl, show (a (2 * i) * b (2 * i + 1) + a (2 * i + 1) * b (2 * i)) % 3329 = mnO a b i from rfl]
   rw [Da ln, ee]
   exact e3
  ·refine Ev.step (f := fun _ => some (List.take (2 * 128) (vec (dl a b)))) (fun k => ?_) ?_
   ·simp only [az.l0]
    rw [Ea (by decide)]
   ·rw [List.take_of_length_le (by rw [bc]; decide)]; exact Ev.now _
 unfold az.f
 have oka := fd (f := a) fun i _ => ha i
 have okb := fd (f := b) fun i _ => hb i
 simp only [Option.bind_some]
 refine Ev.bind (oka ▸ bS (vec a)) (Ev.pos rfl (Ev.bind (okb ▸ bS (vec b)) ?_))
 refine Ev.step (fun k => ?_) core
 simp only [az.j0]
 rw [Ea (by decide)]
/-! a layer, place by place -/
def gC (s : ByteArray) : List (List Int) × Bool :=
 if (cU (s.extract 0 384)).2 = true then
  if (cU (s.extract 384 768)).2 = true then ([(cU (s.extract 0 384)).1, (cU (s.extract 384 768)).1], true) else ([], false)
 else ([], false)
theorem eZ (s : ByteArray) (hs : 768 ≤ s.size) : Ev (fun k => ba.f k s) (gC s) := by
 unfold ba.f gC
 have e0 : wrap64 ((0 : Int) * 384) = 0 := by rw [w64 (by omega) (by omega)]; rfl
 have e2 : wrap64 ((0 : Int) + 1) = 1 := by rw [w64 (by omega) (by omega)]; rfl
 have e3 : wrap64 ((1 : Int) * 384) = 384 := by rw [w64 (by omega) (by omega)]; rfl
 have e5 : wrap64 ((1 : Int) + 1) = 2 := by rw [w64 (by omega) (by omega)]; rfl
 have e4 : wrap64 ((2 : Int) * 384) = 768 := by rw [w64 (by omega) (by omega)]; rfl
 refine Ev.step (f := fun k => (ch.f k (s.extract 0 384)).bind fun bt => (if bt.2 = true then (ba.l0 k s ([] ++ [bt.1]) 1) else (some ([], false)))) (fun k => ?_) ?_
 ·simp only [ba.l0, e0, e2, e3]
  rw [Da (by omega), Da (by omega), Da (by omega), Da (by omega)]
  simp only [Da (show (([] : List (List Int)).length < 5864062014805) from (by rw [List.length_nil]; omega))]
  rfl
 refine Ev.bind (gP _) ?_
 by_cases h0 : (cU (s.extract 0 384)).2 = true
 ·refine Ev.pos h0 ?_
  rw [Da h0]
  refine Ev.step (f := fun k => (ch.f k (s.extract 384 768)).bind fun bt => (if bt.2 = true then (ba.l0 k s ([(cU (s.extract 0 384)).1] ++ [bt.1]) 2) else (some ([], false)))) (fun k => ?_) ?_
  ·simp only [ba.l0, e3, e4, e5]
   rw [Da (by omega), Da (by omega), Da (by omega), Da (by omega)]
   rfl
  refine Ev.bind (gP _) ?_
  by_cases h1 : (cU (s.extract 384 768)).2 = true
  ·refine Ev.pos h1 ?_
   rw [Da h1]
   refine Ev.step (f := fun k => some ([(cU (s.extract 0 384)).1] ++ [(cU (s.extract 384 768)).1], true)) (fun k => ?_) (Ev.now _)
   simp only [ba.l0]
   rw [Ea (by omega)]
  ·rw [Ea h1]; exact Ev.neg h1 (Ev.now _)
 ·rw [Ea h0]; exact Ev.neg h0 (Ev.now _)
theorem fo (s : ByteArray) (hs : 768 ≤ s.size) : Ev (fun k => bk.f k s) (gC s) := by
 unfold bk.f gC
 have e0 : wrap64 ((0 : Int) * 384) = 0 := by rw [w64 (by omega) (by omega)]; rfl
 have e2 : wrap64 ((0 : Int) + 1) = 1 := by rw [w64 (by omega) (by omega)]; rfl
 have e3 : wrap64 ((1 : Int) * 384) = 384 := by rw [w64 (by omega) (by omega)]; rfl
 have e5 : wrap64 ((1 : Int) + 1) = 2 := by rw [w64 (by omega) (by omega)]; rfl
 have e4 : wrap64 ((2 : Int) * 384) = 768 := by rw [w64 (by omega) (by omega)]; rfl
 refine Ev.step (f := fun k => (ci.f k (s.extract 0 384)).bind fun bt => (if bt.2 = true then (bk.l0 k s ([] ++ [bt.1]) 1) else (some ([], false)))) (fun k => ?_) ?_
 ·simp only [bk.l0, e0, e2, e3]
  rw [Da (by omega), Da (by omega), Da (by omega), Da (by omega)]
  simp only [Da (show (([] : List (List Int)).length < 5864062014805) from (by rw [List.length_nil]; omega))]
  rfl
 refine Ev.bind (gV _) ?_
 by_cases h0 : (cU (s.extract 0 384)).2 = true
 ·refine Ev.pos h0 ?_
  rw [Da h0]
  refine Ev.step (f := fun k => (ci.f k (s.extract 384 768)).bind fun bt => (if bt.2 = true then (bk.l0 k s ([(cU (s.extract 0 384)).1] ++ [bt.1]) 2) else (some ([], false)))) (fun k => ?_) ?_
  ·simp only [bk.l0, e3, e4, e5]
   rw [Da (by omega), Da (by omega), Da (by omega), Da (by omega)]
   rfl
  refine Ev.bind (gV _) ?_
  by_cases h1 : (cU (s.extract 384 768)).2 = true
  ·refine Ev.pos h1 ?_
   rw [Da h1]
   refine Ev.step (f := fun k => some ([(cU (s.extract 0 384)).1] ++ [(cU (s.extract 384 768)).1], true)) (fun k => ?_) (Ev.now _)
   simp only [bk.l0]
   rw [Ea (by omega)]
  ·rw [Ea h1]; exact Ev.neg h1 (Ev.now _)
 ·rw [Ea h0]; exact Ev.neg h0 (Ev.now _)
def ga (s : ByteArray) : Bool := if (s.size : Int) = 800 then (gC s).2 else false
theorem jT (s : ByteArray) : Ev (fun k => cw.f k s) (ga s) := by
 unfold cw.f ga
 by_cases h : (s.size : Int) = 800
 ·rw [Da h]; exact Ev.pos h (Ev.bind (eZ s (by omega)) (Ev.now _))
 ·rw [Ea h]; exact Ev.neg h (Ev.now _)
theorem jJ (s : ByteArray) : Ev (fun k => cr.f k s) (ga s) := by
 unfold cr.f ga
 by_cases h : (s.size : Int) = 800
 ·rw [Da h]; exact Ev.pos h (Ev.bind (fo s (by omega)) (Ev.now _))
 ·rw [Ea h]; exact Ev.neg h (Ev.now _)
theorem jb {l : List Int} (h : ¬ dm l = true) : dm l = false := by simpa using h
theorem kQ (l : List Int) (hl : l.length ≤ 35184372088832) : ∃ R : List Int, R.length ≤ 256 ∧ Ev (fun k => bh.f k l) R ∧ Ev (fun k => aM.f k l) R := by
 by_cases h : dm l = true
 ·obtain ⟨f, rfl, hf⟩ := fu h
  exact ⟨vec (oC f), by rw [bc]; omega, nt f hf, nw f hf⟩
 ·refine ⟨[], by simp, ?_, ?_⟩
  ·unfold bh.f
   exact Ev.bind (bS l) (Ev.neg h (Ev.now _))
  ·unfold aM.f
   exact Ev.bind (bT l hl) (Ev.neg h (Ev.now _))
theorem oZ (l : List Int) (hl : l.length ≤ 35184372088832) : ∃ R : List Int, R.length ≤ 256 ∧ Ev (fun k => am.f k l) R ∧ Ev (fun k => ai.f k l) R := by
 by_cases h : dm l = true
 ·obtain ⟨f, rfl, hf⟩ := fu h
  exact ⟨vec (qi f), by rw [bc]; omega, lr f hf, lw f hf⟩
 ·refine ⟨[], by simp, ?_, ?_⟩
  ·unfold am.f
   exact Ev.bind (bS l) (Ev.neg h (Ev.now _))
  ·unfold ai.f
   exact Ev.bind (bT l hl) (Ev.neg h (Ev.now _))
theorem pc (l u : List Int) (hl : l.length ≤ 35184372088832) (hu : u.length ≤ 35184372088832) : ∃ R : List Int, R.length ≤ 256 ∧ Ev (fun k => az.f k l u) R ∧ Ev (fun k => bg.f k l u) R := by
 by_cases h : dm l = true
 ·by_cases h2 : dm u = true
  ·obtain ⟨f, rfl, hf⟩ := fu h
   obtain ⟨g, rfl, hg⟩ := fu h2
   exact ⟨vec (dl f g), by rw [bc]; omega, kU f g hf hg, lf f g hf hg⟩
  ·refine ⟨[], by simp, ?_, ?_⟩
   ·unfold az.f
    simp only [Option.bind_some]
    refine Ev.bind (bS l) (Ev.pos h (Ev.bind (bS u) ?_))
    refine Ev.step (f := fun _ => some []) (fun k => ?_) (Ev.now _)
    simp only [az.j0]
    rw [Da (by rw [jb h2]; rfl)]
   ·unfold bg.f
    refine Ev.bind (bT l hl) (Ev.pos h (Ev.bind (bT u hu) ?_))
    refine Ev.step (f := fun _ => some []) (fun k => ?_) (Ev.now _)
    simp only [bg.j0]
    rw [Da (by rw [jb h2]; rfl)]
 ·refine ⟨[], by simp, ?_, ?_⟩
  ·unfold az.f
   simp only [Option.bind_some]
   refine Ev.bind (bS l) (Ev.neg h ?_)
   refine Ev.step (f := fun _ => some []) (fun k => ?_) (Ev.now _)
   simp only [az.j0]
   rw [Da trivial]
  ·unfold bg.f
   refine Ev.bind (bT l hl) (Ev.neg h ?_)
   refine Ev.step (f := fun _ => some []) (fun k => ?_) (Ev.now _)
   simp only [bg.j0]
   rw [Da trivial]
theorem kF (a b : Nat → Int) (ha : ∀ i, 0 ≤ a i ∧ a i ≤ 3328) (hb : ∀ i, 0 ≤ b i ∧ b i ≤ 3328) : Ev (fun k => aH.f k (vec a) (vec b)) (vec fun i => (a i + b i) % 3329) := by
 have oka : Ev (fun k => ao.f k (vec a)) true := fd (f := a) (fun i _ => ha i) ▸ bS (vec a)
 have okb : Ev (fun k => ao.f k (vec b)) true := fd (f := b) (fun i _ => hb i) ▸ bS (vec b)
 unfold aH.f
 refine Ev.up (g := fun i k => aH.l0 k (vec a) (vec b) ((vec fun i => (a i + b i) % 3329).take i) (i : Int)) (r := vec fun i => (a i + b i) % 3329) 256 ?_ ?_ 0 (by omega)
 ·intro i hi h
  obtain ⟨K1, h1⟩ := oka
  obtain ⟨K2, h2⟩ := okb
  obtain ⟨K3, h3⟩ := h
  refine ⟨K1 + K2 + K3 + 1, fun k hk => ?_⟩
  obtain ⟨m, rfl⟩ : ∃ m, k = m + 1 := ⟨k - 1, by omega⟩
  have e1 : ao.f m (vec a) = some true := h1 m (by omega)
  have e2 : ao.f m (vec b) = some true := h2 m (by omega)
  have e3 := h3 m (by omega)
  have ln : (List.take i (vec fun i => (a i + b i) % 3329)).length < 17592186044416 := by rw [List.length_take, bc]; omega
  have t1 := fU (vec fun i => (a i + b i) % 3329) i (by rw [bc]; exact hi)
  rw [fp] at t1
  have hs : 0 ≤ a i + b i ∧ a i + b i ≤ 6656 := by have := ha i; have := hb i; omega
  have em : Int.tmod (wrap64 (a i + b i)) 3329 = (a i + b i) % 3329 := by
   rw [w64 (by omega) (by omega), Int.tmod_eq_emod_of_nonneg hs.1]
  simp only [aH.l0]
  rw [Da (show (i : Int) < 256 from Int.ofNat_lt.mpr hi), e1, Option.bind_some, Da rfl, e2, Option.bind_some, Da rfl, Da (Int.natCast_nonneg _), bc, bc, Da (Int.ofNat_lt.mpr hi), Da (Int.ofNat_lt.mpr hi), Da ln, dt a i hi, dt b i hi, em, t1, dv i (Nat.lt_trans hi (by decide))]
  exact e3
 ·refine Ev.step (f := fun _ => some (List.take 256 (vec fun i => (a i + b i) % 3329))) (fun k => ?_) ?_
  ·simp only [aH.l0]
   rw [Ea (by decide)]
  ·rw [List.take_of_length_le (by rw [bc]; decide)]; exact Ev.now _
theorem kM (l u : List Int) (hl : l.length ≤ 35184372088832) (hu : u.length ≤ 35184372088832) : ∃ R : List Int, R.length ≤ 256 ∧ Ev (fun k => aH.f k l u) R ∧ Ev (fun k => bK.f k l u) R := by
 by_cases h : dm l = true
 ·by_cases h2 : dm u = true
  ·obtain ⟨f, rfl, hf⟩ := fu h
   obtain ⟨g, rfl, hg⟩ := fu h2
   exact ⟨_, by rw [bc]; omega, kF f g hf hg, kB f g hf hg⟩
  ·refine ⟨[], by simp, ?_, ?_⟩
   ·unfold aH.f
    refine Ev.step (f := fun k => (ao.f k l).bind fun t => if t = true then ((ao.f k u).bind fun t2 => if t2 = true then none else some []) else some []) (fun k => ?_) ?_
    ·simp only [aH.l0]
     rw [Da (by decide)]
     have : ∀ t2 : Bool, ao.f k u = some t2 → t2 = false := fun t2 e => by
      cases t2 with
      | false => rfl
      | true =>
       exfalso
       obtain ⟨K, hK⟩ := bS u
       have e1 := jW (g := fun k => ao.f k u) (fun k => ao.mono u k) (Nat.le_max_left k K) e
       rw [show ao.f (max k K) u = some (dm u) from hK (max k K) (Nat.le_max_right k K), jb h2] at e1
       exact absurd e1 (by decide)
     cases ao.f k l with
     | none => rfl
     | some t =>
      simp only [Option.bind_some]
      cases t with
      | false => rfl
      | true =>
       rw [Da rfl, Da rfl]
       cases e : ao.f k u with
       | none => rfl
       | some t2 =>
        have := this t2 e
        subst this
        simp
    ·exact Ev.bind (bS l) (Ev.pos h (Ev.bind (bS u) (Ev.neg h2 (Ev.now _))))
   ·unfold bK.f
    refine Ev.bind (a := []) ?_ (Ev.now _)
    unfold ah.f
    refine Ev.bind (bT l hl) (Ev.pos h (Ev.bind (bT u hu) ?_))
    refine Ev.step (f := fun _ => some []) (fun k => ?_) (Ev.now _)
    simp only [ah.j0]
    rw [Da (by rw [jb h2]; rfl)]
 ·refine ⟨[], by simp, ?_, ?_⟩
  ·unfold aH.f
   refine Ev.step (f := fun k => (ao.f k l).bind fun t => if t = true then none else some []) (fun k => ?_) ?_
   ·simp only [aH.l0]
    rw [Da (by decide)]
    have : ∀ t2 : Bool, ao.f k l = some t2 → t2 = false := fun t2 e => by
     cases t2 with
     | false => rfl
     | true =>
      exfalso
      obtain ⟨K, hK⟩ := bS l
      have e1 := jW (g := fun k => ao.f k l) (fun k => ao.mono l k) (Nat.le_max_left k K) e
      rw [show ao.f (max k K) l = some (dm l) from hK (max k K) (Nat.le_max_right k K), jb h] at e1
      exact absurd e1 (by decide)
    cases e : ao.f k l with
    | none => rfl
    | some t =>
     have := this t e
     subst this
     simp
   ·exact Ev.bind (bS l) (Ev.neg h (Ev.now _))
  ·unfold bK.f
   refine Ev.bind (a := []) ?_ (Ev.now _)
   unfold ah.f
   refine Ev.bind (bT l hl) (Ev.neg h ?_)
   refine Ev.step (f := fun _ => some []) (fun k => ?_) (Ev.now _)
   simp only [ah.j0]
   rw [Da trivial]
theorem kA (a b : Nat → Int) (ha : ∀ i, 0 ≤ a i ∧ a i ≤ 3328) (hb : ∀ i, 0 ≤ b i ∧ b i ≤ 3328) : Ev (fun k => aC.f k (vec a) (vec b)) (vec fun i => (a i - b i) % 3329) := by
 have oka : Ev (fun k => ao.f k (vec a)) true := fd (f := a) (fun i _ => ha i) ▸ bS (vec a)
 have okb : Ev (fun k => ao.f k (vec b)) true := fd (f := b) (fun i _ => hb i) ▸ bS (vec b)
 unfold aC.f
 simp only [Option.bind_some]
 refine Ev.bind oka (Ev.pos rfl (Ev.bind okb ?_))
 refine Ev.step (f := fun k => aC.l0 k (vec a) (vec b) [] 0) (fun k => ?_) ?_
 ·simp only [aC.j0]
  rw [Ea (by decide)]
 refine Ev.up (g := fun i k => aC.l0 k (vec a) (vec b) ((vec fun i => (a i - b i) % 3329).take i) (i : Int)) (r := vec fun i => (a i - b i) % 3329) 256 ?_ ?_ 0 (by omega)
 ·intro i hi h
  refine Ev.step (fun k => ?_) h
  have ln : (List.take i (vec fun i => (a i - b i) % 3329)).length < 17592186044416 := by rw [List.length_take, bc]; omega
  have t1 := fU (vec fun i => (a i - b i) % 3329) i (by rw [bc]; exact hi)
  rw [fp] at t1
  have hs : -3328 ≤ a i - b i ∧ a i - b i ≤ 3328 := by have := ha i; have := hb i; omega
  have em : Int.tmod (wrap64 (wrap64 (a i - b i) + 3329)) 3329 = (a i - b i) % 3329 := by
   rw [w64 (x := a i - b i) (by omega) (by omega), w64 (by omega) (by omega), Int.tmod_eq_emod_of_nonneg (by omega)]; omega
  simp only [aC.l0]
  rw [Da (show (i : Int) < 256 from Int.ofNat_lt.mpr hi), Da (Int.natCast_nonneg _), bc, bc, Da (Int.ofNat_lt.mpr hi), Da (Int.ofNat_lt.mpr hi), Da ln, dt a i hi, dt b i hi, em, t1, dv i (Nat.lt_trans hi (by decide))]
 ·refine Ev.step (f := fun _ => some (List.take 256 (vec fun i => (a i - b i) % 3329))) (fun k => ?_) ?_
  ·simp only [aC.l0]
   rw [Ea (by decide)]
  ·rw [List.take_of_length_le (by rw [bc]; decide)]; exact Ev.now _
theorem rp (l u : List Int) (hl : l.length ≤ 35184372088832) (hu : u.length ≤ 35184372088832) : ∃ R : List Int, R.length ≤ 256 ∧ Ev (fun k => aC.f k l u) R ∧ Ev (fun k => cp.f k l u) R := by
 by_cases h : dm l = true
 ·by_cases h2 : dm u = true
  ·obtain ⟨f, rfl, hf⟩ := fu h
   obtain ⟨g, rfl, hg⟩ := fu h2
   exact ⟨_, by rw [bc]; omega, kA f g hf hg, kv f g hf hg⟩
  ·refine ⟨[], by simp, ?_, ?_⟩
   ·unfold aC.f
    simp only [Option.bind_some]
    refine Ev.bind (bS l) (Ev.pos h (Ev.bind (bS u) ?_))
    refine Ev.step (f := fun _ => some []) (fun k => ?_) (Ev.now _)
    simp only [aC.j0]
    rw [Da (by rw [jb h2]; rfl)]
   ·unfold cp.f
    refine Ev.bind (a := []) ?_ (Ev.now _)
    unfold ag.f
    refine Ev.bind (bT l hl) (Ev.pos h (Ev.bind (bT u hu) ?_))
    refine Ev.step (f := fun _ => some []) (fun k => ?_) (Ev.now _)
    simp only [ag.j0]
    rw [Da (by rw [jb h2]; rfl)]
 ·refine ⟨[], by simp, ?_, ?_⟩
  ·unfold aC.f
   simp only [Option.bind_some]
   refine Ev.bind (bS l) (Ev.neg h ?_)
   refine Ev.step (f := fun _ => some []) (fun k => ?_) (Ev.now _)
   simp only [aC.j0]
   rw [Da trivial]
  ·unfold cp.f
   refine Ev.bind (a := []) ?_ (Ev.now _)
   unfold ag.f
   refine Ev.bind (bT l hl) (Ev.neg h ?_)
   refine Ev.step (f := fun _ => some []) (fun k => ?_) (Ev.now _)
   simp only [ag.j0]
   rw [Da trivial]
/-- Sums of products of two rows of two. -/
theorem pa (a0 a1 b0 b1 : List Int) (h0 : a0.length ≤ 35184372088832) (h1 : a1.length ≤ 35184372088832) (h2 : b0.length ≤ 35184372088832) (h3 : b1.length ≤ 35184372088832) :
  ∃ R : List Int, R.length ≤ 256 ∧ Ev (fun k => bf.f k [a0, a1] [b0, b1]) R ∧ Ev (fun k => bI.f k [a0, a1] [b0, b1]) R := by
 obtain ⟨p, hp, sp, ip⟩ := pc a0 b0 h0 h2
 obtain ⟨q, hq, sq, iq⟩ := pc a1 b1 h1 h3
 obtain ⟨u, hu, su, iu⟩ := kM (List.replicate 256 0) p (by rw [List.length_replicate]; decide) (by omega)
 obtain ⟨v, hv, sv, iv⟩ := kM u q (by omega) (by omega)
 have w1 : wrap64 (0 + 1) = 1 := by rw [w64 (by decide) (by decide)]; rfl
 have w2 : wrap64 (1 + 1) = 2 := by rw [w64 (by decide) (by decide)]; rfl
 have la : (([a0, a1] : List (List Int)).length : Int) = 2 := rfl
 have lb : (([b0, b1] : List (List Int)).length : Int) = 2 := rfl
 refine ⟨v, hv, ?_, ?_⟩
 ·unfold bf.f
  refine Ev.pos (by decide) ?_
  refine Ev.step (f := fun k => (az.f k a0 b0).bind fun t => (aH.f k (List.replicate 256 0) t).bind fun t2 => bf.l0 k [a0, a1] [b0, b1] t2 1) (fun k => ?_) (Ev.bind sp (Ev.bind su ?_))
  ·simp only [bf.l0]
   rw [la, lb, Da (by decide), Da (by decide), Da (by decide), w1]
   rfl
  refine Ev.step (f := fun k => (az.f k a1 b1).bind fun t => (aH.f k u t).bind fun t2 => bf.l0 k [a0, a1] [b0, b1] t2 2) (fun k => ?_) (Ev.bind sq (Ev.bind sv ?_))
  ·simp only [bf.l0]
   rw [la, lb, Da (by decide), Da (by decide), Da (by decide), w2]
   rfl
  refine Ev.step (f := fun _ => some v) (fun k => ?_) (Ev.now _)
  simp only [bf.l0]
  rw [la, Ea (by decide)]
 ·unfold bI.f
  refine Ev.pos (by decide) ?_
  refine Ev.step (f := fun k => (bg.f k a0 b0).bind fun t => (bK.f k (List.replicate 256 0) t).bind fun t2 => bI.l0 k [a0, a1] [b0, b1] t2 2 1) (fun k => ?_) (Ev.bind ip (Ev.bind iu ?_))
  ·simp only [bI.l0]
   rw [la, lb, Da (by decide), Da (by decide), Da (by decide), Da (by decide), w1]
   rfl
  refine Ev.step (f := fun k => (bg.f k a1 b1).bind fun t => (bK.f k u t).bind fun t2 => bI.l0 k [a0, a1] [b0, b1] t2 2 2) (fun k => ?_) (Ev.bind iq (Ev.bind iv ?_))
  ·simp only [bI.l0]
   rw [la, lb, Da (by decide), Da (by decide), Da (by decide), Da (by decide), w2]
   rfl
  refine Ev.step (f := fun _ => some v) (fun k => ?_) (Ev.now _)
  simp only [bI.l0]
  rw [Ea (by decide)]
def qN (m : ByteArray) (i : Nat) : Int := dd (((bt m ((i / 8 : Nat) : Int)).toNat / 2 ^ (i % 8) % 2 : Nat) : Int) 1
def eF (m : ByteArray) : List Int := (List.range 256).map (qN m)
theorem fy (m : ByteArray) : (eF m).length = 256 := by simp [eF]
theorem mw (m : ByteArray) (i : Nat) (h : i < (eF m).length) : (eF m)[i] = qN m i := by simp [eF]
theorem qx (m : ByteArray) (i : Int) : bt m i = (((bt m i).toNat : Nat) : Int) ∧ (bt m i).toNat < 256 := by
 have := dC m i
 omega
theorem w8 (i : Nat) (h : i < 256) : wrap64 (Int.tdiv (i : Int) 8) = ((i / 8 : Nat) : Int) := by
 rw [Int.tdiv_eq_ediv_of_nonneg (by omega), w64 (by omega) (by omega)]; rfl
theorem m8 (i : Nat) : Int.tmod (i : Int) 8 = ((i % 8 : Nat) : Int) := by
 rw [Int.tmod_eq_emod_of_nonneg (by omega)]; rfl
theorem kt (m : ByteArray) (hm : m.size = 32) : Ev (fun k => bd.f k m) (eF m) := by
 unfold bd.f
 refine Ev.up (g := fun i k => bd.l0 k m ((eF m).take i) (i : Int)) (r := eF m) 256 ?_ ?_ 0 (by omega)
 ·intro i hi h
  have hb := qx m ((i / 8 : Nat) : Int)
  have c1 : i / 8 < m.size := by omega
  have ww : wrap64 (bt m ((i / 8 : Nat) : Int)) = (((bt m ((i / 8 : Nat) : Int)).toNat : Nat) : Int) := by
   rw [w64 (by omega) (by omega)]; exact hb.1
  have hlt := hb.2
  have ln : (List.take i (eF m)).length < 17592186044416 := by rw [List.length_take, fy]; omega
  have t1 := fU (eF m) i (by rw [fy]; exact hi)
  rw [mw] at t1
  refine Ev.step (f := fun k => bd.l1 k m ((eF m).take i) (i : Int) (((bt m ((i / 8 : Nat) : Int)).toNat : Nat) : Int) 0) (fun k => ?_) ?_
  ·simp only [bd.l0]
   rw [Da (show (i : Int) < 256 from Int.ofNat_lt.mpr hi), w8 i hi, Da (Int.natCast_nonneg _), Da (Int.ofNat_lt.mpr c1), ww]
  ·have hbit : qN m i = dd (((bt m ((i / 8 : Nat) : Int)).toNat / 2 ^ (i % 8) % 2 : Nat) : Int) 1 := rfl
   rw [hbit] at t1
   clear hbit ww hb
   generalize (bt m ((i / 8 : Nat) : Int)).toNat = u at t1 hlt ⊢
   have key := Ev.up (g := fun j k => bd.l1 k m ((eF m).take i) (i : Int) ((u / 2 ^ j : Nat) : Int) (j : Int)) (r := eF m) (i % 8) ?_ ?_ 0 (by omega)
   ·simpa using key
   ·intro j hj h'
    refine Ev.step (fun k => ?_) h'
    have hle : u / 2 ^ j ≤ u := Nat.div_le_self _ _
    have e2 := jl (u / 2 ^ j) (by omega)
    have e5 : u / 2 ^ j / 2 = u / 2 ^ (j + 1) := by rw [Nat.div_div_eq_div_mul, Nat.pow_succ]
    simp only [bd.l1]
    rw [m8, Da (Int.ofNat_lt.mpr hj), e2, e5, dv j (by omega)]
   ·refine Ev.step (f := fun k => (bs.f k ((u / 2 ^ (i % 8) % 2 : Nat) : Int) 1).bind fun t => bd.l0 k m ((eF m).take i ++ [t]) ((i + 1 : Nat) : Int)) (fun k => ?_) (Ev.bind (hU _ 1) ?_)
    ·simp only [bd.l1]
     rw [m8, Ea (Int.lt_irrefl _), mh, dv i (by omega)]
     simp only [Da ln]
    ·rw [t1]
     exact h
 ·refine Ev.step (f := fun _ => some (eF m)) (fun k => ?_) (Ev.now _)
  simp only [bd.l0]
  rw [Ea (by decide), List.take_of_length_le (by rw [fy]; decide)]
theorem lh (m : ByteArray) (hm : m.size = 32) : Ev (fun k => bN.f k m) (eF m) := by
 unfold bN.f
 refine Ev.pos (by decide) ?_
 simp only [Option.bind_some]
 rw [List.length_replicate]
 have e0 : List.take 0 (eF m) ++ List.replicate (256 - 0) (0 : Int) = List.replicate 256 0 := by rw [List.take_zero, List.nil_append]
 suffices key : Ev (fun k => bN.l0 k m (List.take 0 (eF m) ++ List.replicate (256 - 0) 0) ((256 : Nat) : Int) ((0 : Nat) : Int)) (eF m) by rw [e0] at key; exact key
 refine Ev.up (g := fun i k => bN.l0 k m ((eF m).take i ++ List.replicate (256 - i) 0) ((256 : Nat) : Int) (i : Int)) (r := eF m) 256 ?_ ?_ 0 (by omega)
 ·intro i hi h
  refine Ev.step (fun k => ?_) h
  have hb := qx m ((i / 8 : Nat) : Int)
  have hlt := hb.2
  have c1 : i / 8 < m.size := by omega
  have ew : wrap64 (Go.bits .and .u8 (shr .u8 (bt m ((i / 8 : Nat) : Int)) ((i % 8 : Nat) : Int)) 1) = (((bt m ((i / 8 : Nat) : Int)).toNat / 2 ^ (i % 8) % 2 : Nat) : Int) := by
   rw [hb.1]
   generalize (bt m ((i / 8 : Nat) : Int)).toNat = u at hlt ⊢
   have hle : u / 2 ^ (i % 8) ≤ u := Nat.div_le_self _ _
   have h2 : u / 2 ^ (i % 8) % 2 < 2 := Nat.mod_lt _ (by decide)
   rw [Int.toNat_natCast, kT .u8 u (i % 8) (by simp [IntKind.bits]; omega), oO _ (by omega)]
   generalize u / 2 ^ (i % 8) % 2 = v at h2 ⊢
   exact w64 (by omega) (by omega)
  have hset := nk (eF m) 0 i (by rw [fy]; exact hi)
  rw [mw] at hset
  simp only [fy] at hset
  have hlen : (List.take i (eF m) ++ List.replicate (256 - i) 0).length = 256 := by rw [List.length_append, List.length_take, fy, List.length_replicate]; omega
  simp only [bN.l0]
  rw [Da (Int.ofNat_lt.mpr hi), w8 i hi, Da (Int.natCast_nonneg _), Da (Int.ofNat_lt.mpr c1), m8, Da (Int.natCast_nonneg _), ew, hH, Option.bind_some, Da (Int.natCast_nonneg _), hlen, Da (Int.ofNat_lt.mpr hi), Int.toNat_natCast, show dd (((bt m ((i / 8 : Nat) : Int)).toNat / 2 ^ (i % 8) % 2 : Nat) : Int) 1 = qN m i from rfl, hset, dv i (by omega)]
 ·refine Ev.step (f := fun _ => some (eF m)) (fun k => ?_) (Ev.now _)
  simp only [bN.l0]
  rw [Ea (by decide), List.take_of_length_le (by rw [fy]; decide), Nat.sub_self, List.replicate_zero, List.append_nil]
theorem js (f : Int → Int) (l : List Int) (i : Nat) (h : i < l.length) : (l.take i).map f ++ [f l[i]] = (l.take (i + 1)).map f := by
 rw [← List.take_append_getElem h, List.map_append]; rfl
theorem map_set (f : Int → Int) (l : List Int) (i : Nat) (h : i < l.length) : ((l.take i).map f ++ l.drop i).set i (f l[i]) = (l.take (i + 1)).map f ++ l.drop (i + 1) := by
 rw [List.set_append_right _ _ (by rw [List.length_map, List.length_take]; omega), List.length_map, List.length_take, Nat.min_eq_left (by omega), Nat.sub_self, List.drop_eq_getElem_cons h, List.set_cons_zero, ← js f l i h, List.append_assoc]
 rfl
theorem rQ (f : Int → Int) (l : List Int) (i : Nat) (h : i < l.length) : rd ((l.take i).map f ++ l.drop i) (i : Int) = l[i] := by
 have hl : i < ((l.take i).map f ++ l.drop i).length := by simp; omega
 rw [dg _ _ hl, List.getElem_append_right (by rw [List.length_map, List.length_take]; omega)]
 simp only [List.length_map, List.length_take, Nat.min_eq_left (show i ≤ l.length by omega), Nat.sub_self, List.getElem_drop, Nat.add_zero]
def n6 (s : ByteArray) (d : Int) : List Int := (ex s d 256).1.map fun y => dd y d
theorem lg (s : ByteArray) (d : Int) : (n6 s d).length ≤ 1000 := by unfold n6; rw [List.length_map]; exact eR s d 256
theorem eT (s : ByteArray) (d : Int) : Ev (fun k => aJ.f k s d) (n6 s d) := by
 unfold aJ.f n6
 refine Ev.bind (ir s d 256) ?_
 have hl := eR s d 256
 generalize (ex s d 256).1 = l at hl ⊢
 refine Ev.up (g := fun i k => aJ.l0 k d ((l.take i).map (fun y => dd y d) ++ l.drop i) (i : Int)) (r := l.map fun y => dd y d) l.length ?_ ?_ 0 (by omega)
 ·intro i hi h
  have e := map_set (fun y => dd y d) l i hi
  have e2 := rQ (fun y => dd y d) l i hi
  have hn : ((l.take i).map (fun y => dd y d) ++ l.drop i).length = l.length := by simp; omega
  refine Ev.step (f := fun k => (bs.f k l[i] d).bind fun t => aJ.l0 k d (((l.take i).map (fun y => dd y d) ++ l.drop i).set i t) ((i + 1 : Nat) : Int)) (fun k => ?_) (Ev.bind (hU l[i] d) ?_)
  ·simp only [aJ.l0]
   rw [hn, Da (Int.ofNat_lt.mpr hi), Da (Int.natCast_nonneg _), e2, Int.toNat_natCast, dv i (by omega)]
  ·rw [e]
   exact h
 ·refine Ev.step (f := fun _ => some (l.map fun y => dd y d)) (fun k => ?_) (Ev.now _)
  simp only [aJ.l0]
  rw [Ea (by simp)]
  simp
theorem fJ (l : List Int) (d : Int) (hl : l.length ≤ 1000) : Ev (fun k => bj.f k l d) (l.map fun y => dd y d) := by
 unfold bj.f
 refine Ev.up (g := fun i k => bj.l0 k d ((l.take i).map fun y => dd y d) l (l.length : Int) (i : Int)) (r := l.map fun y => dd y d) l.length ?_ ?_ 0 (by omega)
 ·intro i hi h
  refine Ev.step (fun k => ?_) h
  have ln : ((l.take i).map fun y => dd y d).length < 17592186044416 := by rw [List.length_map, List.length_take]; omega
  simp only [bj.l0]
  rw [Da (Int.ofNat_lt.mpr hi), Da (Int.natCast_nonneg _), Da (Int.ofNat_lt.mpr hi), dg l i hi, hH, Option.bind_some, Da ln, js (fun y => dd y d) l i hi, dv i (by omega)]
 ·refine Ev.step (f := fun _ => some (l.map fun y => dd y d)) (fun k => ?_) (Ev.now _)
  simp only [bj.l0]
  rw [Ea (by omega), List.take_of_length_le (by omega)]
def sqV (l : List Int) (d : Int) : List Int := l.map fun y => eG y d
theorem pf (l : List Int) (d : Nat) : (sqV l d).all (hJ d) = true := by
 refine List.all_eq_true.mpr fun x hx => ?_
 obtain ⟨y, _, rfl⟩ := List.mem_map.mp hx
 refine wa ?_
 have e : (2 : Int) ^ (d : Int).toNat = 2 ^ d := by rw [Int.toNat_natCast]
 have hp : (1 : Int) ≤ 2 ^ d := by
  have h3 : (1 : Nat) ≤ 2 ^ d := Nat.one_le_two_pow
  have h4 : ((2 ^ d : Nat) : Int) = (2 : Int) ^ d := by simp
  omega
 by_cases h : (0 ≤ y ∧ y ≤ 3328) ∧ 1 ≤ (d : Int) ∧ (d : Int) ≤ 11
 ·rw [iy h.1 h.2, e]
  have := Int.emod_nonneg ((2 ^ d * y + 1664) / 3329) (show (2 : Int) ^ d ≠ 0 by omega)
  have := Int.emod_lt_of_pos ((2 ^ d * y + 1664) / 3329) (show (0 : Int) < 2 ^ d by omega)
  omega
 ·rw [fE h]
  omega
theorem eo (l : List Int) (d : Nat) (h1 : 1 ≤ d) (h2 : d ≤ 11) (hl : l.length ≤ 1000) : Ev (fun k => aK.f k l (d : Int)) (fl d (sqV l d)) := by
 unfold aK.f
 refine Ev.up (g := fun i k => aK.l0 k l (d : Int) ((l.take i).map fun y => eG y d) (i : Int)) (r := fl d (sqV l d)) l.length ?_ ?_ 0 (by omega)
 ·intro i hi h
  have ln : ((l.take i).map fun y => eG y d).length < 17592186044416 := by rw [List.length_map, List.length_take]; omega
  refine Ev.step (f := fun k => (bD.f k l[i] d).bind fun t => aK.l0 k l (d : Int) (((l.take i).map fun y => eG y d) ++ [t]) ((i + 1 : Nat) : Int)) (fun k => ?_) (Ev.bind (kE l[i] d) ?_)
  ·simp only [aK.l0]
   rw [Da (Int.ofNat_lt.mpr hi), Da (Int.natCast_nonneg _), dg l i hi, dv i (by omega)]
   simp only [Da ln]
  ·rw [js (fun y => eG y d) l i hi]
   exact h
 ·refine Ev.step (f := fun k => (aZ.f k (sqV l d) (d : Int)).bind fun bt => some bt.1) (fun k => ?_) ?_
  ·simp only [aK.l0]
   rw [Ea (by omega), List.take_of_length_le (by omega)]
   rfl
  ·have e : o5 (sqV l d) (d : Int) = (fl d (sqV l d), true) := by
    unfold o5
    rw [Int.toNat_natCast, Da ⟨by omega, pf l d⟩]
   have hp := m5 (sqV l d) (d : Int) (by unfold sqV; rw [List.length_map]; omega)
   rw [e] at hp
   exact Ev.bind hp (Ev.now _)
theorem eY (l : List Int) (d : Nat) (hl : l.length ≤ 1000) : Ev (fun k => bp.f k l (d : Int)) (sqV l d) := by
 unfold bp.f
 refine Ev.up (g := fun i k => bp.l0 k (d : Int) ((l.take i).map fun y => eG y d) l (l.length : Int) (i : Int)) (r := sqV l d) l.length ?_ ?_ 0 (by omega)
 ·intro i hi h
  refine Ev.step (fun k => ?_) h
  have ln : ((l.take i).map fun y => eG y d).length < 17592186044416 := by rw [List.length_map, List.length_take]; omega
  simp only [bp.l0]
  rw [Da (Int.ofNat_lt.mpr hi), Da (Int.natCast_nonneg _), Da (Int.ofNat_lt.mpr hi), dg l i hi, kC, Option.bind_some, Da ln, js (fun y => eG y d) l i hi, dv i (by omega)]
 ·refine Ev.step (f := fun _ => some (sqV l d)) (fun k => ?_) (Ev.now _)
  simp only [bp.l0]
  rw [Ea (by omega), List.take_of_length_le (by omega)]
  rfl
theorem eN (l : List Int) (d : Nat) (h1 : 1 ≤ d) (h2 : d ≤ 11) (hl : l.length ≤ 1000) : Ev (fun k => ay.f k (sqV l d) (d : Int)) (fl d (sqV l d)) :=
 iA (sqV l d) d h1 (by omega) (by unfold sqV; rw [List.length_map]; omega) (pf l d)
theorem ll (s : ByteArray) : ((gC s).2 = true → ∃ a b, (gC s).1 = [a, b] ∧ a.length ≤ 1000 ∧ b.length ≤ 1000) := by
 intro h
 unfold gC at h ⊢
 split
 ·split
  ·exact ⟨_, _, rfl, iS _, iS _⟩
  ·rename_i h1 h2
   rw [Da h1, Ea h2] at h
   exact absurd h (by decide)
 ·rename_i h1
  rw [Ea h1] at h
  exact absurd h (by decide)
theorem sK : wrap64 ((0 : Int) * 320) = 0 ∧ wrap64 (0 + 1) = 1 ∧ wrap64 ((1 : Int) * 320) = 320 ∧ wrap64 (1 + 1) = 2 ∧ wrap64 ((2 : Int) * 320) = 640 := by
 refine ⟨?_, ?_, ?_, ?_, ?_⟩ <;> (rw [w64 (by decide) (by decide)]; rfl)
/-- What is opened: for every secret and every cipher the same on both sides. -/
theorem pZ (s c : ByteArray) : ∃ R : List Int × Bool, R.1.length ≤ 1000 ∧ Ev (fun k => aV.f k s c) R ∧ Ev (fun k => bb.f k s c) R := by
 have sbad : Ev (fun k => aV.j0 k s c true) ([], false) := by
  refine Ev.step (f := fun _ => some ([], false)) (fun k => ?_) (Ev.now _)
  simp only [aV.j0]
  rw [Da trivial]
 have ibad : Ev (fun k => bb.j0 k s c true) ([], false) := by
  refine Ev.step (f := fun _ => some ([], false)) (fun k => ?_) (Ev.now _)
  simp only [bb.j0]
  rw [Da trivial]
 unfold aV.f bb.f
 by_cases hs : (s.size : Int) = 1632
 ·by_cases hc : (c.size : Int) = 768
  ·have hcb : ((c.size : Int) != 768) = false := bne_eq_false_iff_eq.mpr hc
   have s768 : 768 ≤ s.size := by omega
   rw [hcb]
   by_cases h2 : (gC s).2 = true
   ·obtain ⟨a0, a1, ea, la0, la1⟩ := ll s h2
    have u0 := lg (c.extract 0 320) 10
    have u1 := lg (c.extract 320 640) 10
    have uv := lg (c.extract 640 c.size) 4
    obtain ⟨n0, hn0, sn0, in0⟩ := kQ (n6 (c.extract 0 320) 10) (by omega)
    obtain ⟨n1, hn1, sn1, in1⟩ := kQ (n6 (c.extract 320 640) 10) (by omega)
    obtain ⟨p, hp, sp, ip⟩ := pa a0 a1 n0 n1 (by omega) (by omega) (by omega) (by omega)
    obtain ⟨q, hq, sq, iq⟩ := oZ p (by omega)
    obtain ⟨v, hv, sv, iv⟩ := rp (n6 (c.extract 640 c.size) 4) q (by omega) (by omega)
    obtain ⟨w1, w2, w3, w4, w5⟩ := sK
    have c320 : (320 : Int) ≤ c.size := by omega
    have c640 : (640 : Int) ≤ c.size := by omega
    refine ⟨(v, true), by show v.length ≤ 1000; omega, Ev.pos hs ?_, Ev.pos hs ?_⟩
    ·refine Ev.step (f := fun k => (ba.f k s).bind fun bt => if bt.2 = true then aV.l0 k c bt.1 [] 0 else some ([], false)) (fun k => ?_) (Ev.bind (eZ s s768) (Ev.pos h2 ?_))
     ·simp only [aV.j0]
      rw [Ea (by decide)]
     rw [ea]
     refine Ev.step (f := fun k => (aJ.f k (c.extract 0 320) 10).bind fun t => (bh.f k t).bind fun t2 => aV.l0 k c [a0, a1] ([] ++ [t2]) 1) (fun k => ?_) (Ev.bind (eT _ 10) (Ev.bind sn0 ?_))
     ·simp only [aV.l0, w1, w2, w3]
      rw [Da (by decide), Da (by decide), Da (by decide), Da c320]
      rfl
     refine Ev.step (f := fun k => (aJ.f k (c.extract 320 640) 10).bind fun t => (bh.f k t).bind fun t2 => aV.l0 k c [a0, a1] ([n0] ++ [t2]) 2) (fun k => ?_) (Ev.bind (eT _ 10) (Ev.bind sn1 ?_))
     ·simp only [aV.l0, w3, w4, w5]
      rw [Da (by decide), Da (by decide), Da (by decide), Da c640]
      rfl
     refine Ev.step (f := fun k => (aJ.f k (c.extract 640 c.size) 4).bind fun t => (bf.f k [a0, a1] [n0, n1]).bind fun t2 => (am.f k t2).bind fun t3 => (aC.f k t t3).bind fun t4 => some (t4, true)) (fun k => ?_) (Ev.bind (eT _ 4) (Ev.bind sp (Ev.bind sq (Ev.bind sv (Ev.now _)))))
     simp only [aV.l0]
     rw [Ea (by decide), Da c640]
     rfl
    ·refine Ev.step (f := fun k => (bk.f k s).bind fun bt => if bt.2 = true then bb.l0 k c bt.1 [] 0 else some ([], false)) (fun k => ?_) (Ev.bind (fo s s768) (Ev.pos h2 ?_))
     ·simp only [bb.j0]
      rw [Ea (by decide)]
     rw [ea]
     have l0 := eR (c.extract 0 320) 10 256
     have l1 := eR (c.extract 320 640) 10 256
     have l2 := eR (c.extract 640 c.size) 4 256
     refine Ev.step (f := fun k => (av.f k (c.extract 0 320) 10 256).bind fun bt => (bj.f k bt.1 10).bind fun t => (aM.f k t).bind fun t2 => bb.l0 k c [a0, a1] ([] ++ [t2]) 1) (fun k => ?_) (Ev.bind (fL _ 10 256) (Ev.bind (fJ _ 10 l0) (Ev.bind in0 ?_)))
     ·simp only [bb.l0, w1, w2, w3]
      rw [Da (by decide), Da (by decide), Da (by decide), Da c320]
      rfl
     refine Ev.step (f := fun k => (av.f k (c.extract 320 640) 10 256).bind fun bt => (bj.f k bt.1 10).bind fun t => (aM.f k t).bind fun t2 => bb.l0 k c [a0, a1] ([n0] ++ [t2]) 2) (fun k => ?_) (Ev.bind (fL _ 10 256) (Ev.bind (fJ _ 10 l1) (Ev.bind in1 ?_)))
     ·simp only [bb.l0, w3, w4, w5]
      rw [Da (by decide), Da (by decide), Da (by decide), Da c640]
      rfl
     refine Ev.step (f := fun k => (av.f k (c.extract 640 c.size) 4 256).bind fun bt => (bj.f k bt.1 4).bind fun t => (bI.f k [a0, a1] [n0, n1]).bind fun t2 => (ai.f k t2).bind fun t3 => (cp.f k t t3).bind fun t4 => some (t4, true)) (fun k => ?_) (Ev.bind (fL _ 4 256) (Ev.bind (fJ _ 4 l2) (Ev.bind ip (Ev.bind iq (Ev.bind iv (Ev.now _))))))
     simp only [bb.l0]
     rw [Ea (by decide), Da c640]
     rfl
   ·refine ⟨([], false), by simp, Ev.pos hs ?_, Ev.pos hs ?_⟩
    ·refine Ev.step (f := fun k => (ba.f k s).bind fun bt => if bt.2 = true then aV.l0 k c bt.1 [] 0 else some ([], false)) (fun k => ?_) (Ev.bind (eZ s s768) (Ev.neg h2 (Ev.now _)))
     simp only [aV.j0]
     rw [Ea (by decide)]
    ·refine Ev.step (f := fun k => (bk.f k s).bind fun bt => if bt.2 = true then bb.l0 k c bt.1 [] 0 else some ([], false)) (fun k => ?_) (Ev.bind (fo s s768) (Ev.neg h2 (Ev.now _)))
     simp only [bb.j0]
     rw [Ea (by decide)]
  ·have hcb : ((c.size : Int) != 768) = true := bne_iff_ne.mpr hc
   rw [hcb]
   exact ⟨([], false), by simp, Ev.pos hs sbad, Ev.pos hs ibad⟩
 ·exact ⟨([], false), by simp, Ev.neg hs sbad, Ev.neg hs ibad⟩
def W64 (x : Int) : Prop := 0 ≤ x ∧ x < 18446744073709551616
theorem fX (x : Int) : IntKind.u64.wrap x = x % 18446744073709551616 := IntKind.wrap_u64 x
theorem W64.mod (x : Int) : W64 (x % 18446744073709551616) := by unfold W64; omega
theorem W64.wrap (x : Int) : W64 (IntKind.u64.wrap x) := by rw [fX]; exact W64.mod _
theorem W64.xor (a b : Int) : W64 (Go.bits .xor .u64 a b) := W64.wrap _
theorem W64.or (a b : Int) : W64 (Go.bits .or .u64 a b) := W64.wrap _
theorem o0 : ∀ n : Int, 0 ≤ n → n < 2 ^ 64 → IntKind.u64.wrap n = n := fun n h0 h1 => by rw [fX]; omega
theorem r7 (i : Nat) (x y : Int) (hx : W64 x) (hi : x % 2 ^ i = 0) (hy : W64 y) (hyi : y < 2 ^ i) : Go.bits .or .u64 x y = x + y :=
 bits_join .u64 64 (by decide) o0 i x y hx.1 hi (by have := hx.2; omega) hy.1 hyi (by have := hy.2; omega)
theorem si (i : Nat) (x y : Int) (hx : W64 x) (hxi : x < 2 ^ i) (hy : W64 y) (hi : y % 2 ^ i = 0) : Go.bits .or .u64 x y = x + y := by
 have h : Go.bits .or .u64 x y = Go.bits .or .u64 y x := by
  show IntKind.u64.wrap (((BitVec.ofInt 64 x ||| BitVec.ofInt 64 y).toNat : Nat) : Int) = IntKind.u64.wrap (((BitVec.ofInt 64 y ||| BitVec.ofInt 64 x).toNat : Nat) : Int)
  rw [BitVec.or_comm]
 rw [h, r7 i y x hy hi hx hxi, Int.add_comm]
theorem p4 (a b : Nat) (ha : a < 2 ^ 64) (hb : b < 2 ^ 64) : Go.bits .xor .u64 (a : Int) (b : Int) = ((a ^^^ b : Nat) : Int) := by
 show IntKind.u64.wrap (((BitVec.ofInt 64 (a : Int) ^^^ BitVec.ofInt 64 (b : Int)).toNat : Nat) : Int) = _
 have e1 : (BitVec.ofInt 64 (a : Int) ^^^ BitVec.ofInt 64 (b : Int)).toNat = a ^^^ b := by
  rw [BitVec.toNat_xor, BitVec.toNat_ofInt, BitVec.toNat_ofInt]
  congr 1 <;> omega
 rw [e1]
 have := Nat.xor_lt_two_pow ha hb
 exact o0 _ (by omega) (by omega)
theorem np (x : Int) (h : W64 x) : Go.bits .xor .u64 0 x = x := by
 obtain ⟨n, rfl⟩ := Int.eq_ofNat_of_zero_le h.1
 have := p4 0 n (by omega) (by have := h.2; omega)
 rw [Nat.zero_xor] at this
 exact this
theorem qE (e : Int) (h : W64 e) : IntKind.u64.wrap (18446744073709551615 - e) = lG e := by
 obtain ⟨n, rfl⟩ := Int.eq_ofNat_of_zero_le h.1
 have hn : n < 18446744073709551616 := by have := h.2; omega
 unfold lG
 show _ = IntKind.u64.wrap (((BitVec.ofInt 64 18446744073709551615 ^^^ BitVec.ofInt 64 (n : Int)).toNat : Nat) : Int)
 have h1 : (BitVec.ofInt 64 18446744073709551615 ^^^ BitVec.ofInt 64 (n : Int)).toNat = 18446744073709551615 - n := by
  have e1 : BitVec.ofInt 64 18446744073709551615 = BitVec.allOnes 64 := by decide
  rw [e1, BitVec.allOnes_xor, BitVec.toNat_not, BitVec.toNat_ofInt]
  omega
 rw [h1, fX, fX]
 omega
theorem rN (x : Int) (n : Nat) : W64 (iE x n) := W64.or _ _
theorem ms (x : Int) (h : W64 x) : iE x 0 = x := by
 unfold iE
 have h1 := h.1
 have h2 := h.2
 have e : x / 2 ^ (64 - 0) = 0 := Int.ediv_eq_zero_of_lt h1 (by simpa using h2)
 rw [e, fX, show x * 2 ^ 0 % 18446744073709551616 = x by omega, r7 0 x 0 h (by omega) ⟨by decide, by decide⟩ (by decide)]
 omega
/-- A gN turned left, by doubling. -/
theorem pn (x : Int) (n : Nat) (hn : n < 64) (r : Int) (h : Ev (fun k => bu.l0 k x (n : Int) ((2 ^ n : Nat) : Int) (n : Int)) r) : Ev (fun k => bu.f k x (n : Int)) r := by
 refine Ev.up (g := fun i k => bu.l0 k x (n : Int) ((2 ^ i : Nat) : Int) (i : Int)) n ?_ h 0 (Nat.zero_le _)
 intro i hi hh
 refine Ev.step (fun k => ?_) hh
 have hp : 2 ^ (i + 1) < 2 ^ 64 := Nat.pow_lt_pow_right (by decide) (by omega)
 simp only [bu.l0]
 rw [Da (by omega), dv i (by omega), fX]
 congr 1
 rw [Nat.pow_succ] at hp ⊢
 omega
theorem oU (x : Int) (n : Nat) (h : W64 x) (hn : n < 64) : Ev (fun k => bu.f k x (n : Int)) (iE x n) := by
 refine pn x n hn _ ?_
 refine Ev.step (f := fun _ => some (iE x n)) (fun k => ?_) (Ev.now _)
 simp only [bu.l0]
 rw [Ea (by omega)]
 by_cases h0 : n = 0
 ·subst h0
  rw [Da (by rfl), ms x h]
 rw [Ea (by omega)]
 obtain ⟨A, hA⟩ : ∃ A : Nat, A = 2 ^ n := ⟨_, rfl⟩
 obtain ⟨B, hB⟩ : ∃ B : Nat, B = 2 ^ (64 - n) := ⟨_, rfl⟩
 obtain ⟨C, hC⟩ : ∃ C : Nat, C = 2 ^ (63 - n) := ⟨_, rfl⟩
 have hA0 : 0 < A := by rw [hA]; exact Nat.pow_pos (by decide)
 have hC0 : 0 < C := by rw [hC]; exact Nat.pow_pos (by decide)
 have hCA : C * A = 9223372036854775808 := by rw [hA, hC, ← Nat.pow_add, show 63 - n + n = 63 by omega]
 have hBC : B = C * 2 := by rw [hB, hC, show 64 - n = 63 - n + 1 by omega, Nat.pow_succ]
 have hA2 : A < 18446744073709551616 := by have h4 : 2 ^ n < 2 ^ 64 := Nat.pow_lt_pow_right (by decide) hn; omega
 have hC2 : C ≤ 4611686018427387904 := by
  have : C ≤ 2 ^ 62 := by rw [hC]; exact Nat.pow_le_pow_right (by decide) (by omega)
  omega
 rw [← hA, Ea (by omega)]
 have e1 : Int.tdiv (9223372036854775808 : Int) (A : Int) = (C : Int) := by
  rw [Int.tdiv_eq_ediv_of_nonneg (by decide), show (9223372036854775808 : Int) = ((C * A : Nat) : Int) by rw [hCA]; rfl]
  rw [← Int.natCast_ediv, Nat.mul_div_cancel _ hA0]
 have e2 : IntKind.u64.wrap ((IntKind.u64.wrap (C : Int)) * 2) = (B : Int) := by rw [fX, fX]; omega
 rw [e1, e2, Ea (by omega)]
 have hx1 := h.1
 have hx2 := h.2
 rw [Int.tdiv_eq_ediv_of_nonneg hx1]
 obtain ⟨m, rfl⟩ := Int.eq_ofNat_of_zero_le hx1
 have hm : m < 18446744073709551616 := by omega
 have hBA : B * A = 18446744073709551616 := by rw [hBC, Nat.mul_assoc, Nat.mul_comm 2 A, ← Nat.mul_assoc, hCA]
 have hd : m / B < A := Nat.div_lt_of_lt_mul (by rw [hBA]; exact hm)
 have hlow : m * A % 18446744073709551616 = (m % B) * A := by
  rw [← hBA, Nat.mul_mod_mul_right]
 have hAi : (2 : Int) ^ n = (A : Int) := by rw [hA, Int.natCast_pow]; rfl
 have hBi : (2 : Int) ^ (64 - n) = (B : Int) := by rw [hB, Int.natCast_pow]; rfl
 have hq : ((m : Int) / 2 ^ (64 - n)) = ((m / B : Nat) : Int) := by rw [hBi, ← Int.natCast_ediv]
 have hp2 : IntKind.u64.wrap ((m : Int) * (A : Int)) = (((m % B) * A : Nat) : Int) := by
  rw [fX, ← hlow, ← Int.natCast_mul]
  generalize m * A = z
  omega
 have hp : IntKind.u64.wrap ((m : Int) * 2 ^ n) = (((m % B) * A : Nat) : Int) := by rw [hAi, hp2]
 have hlt : (m % B) * A < 18446744073709551616 := by rw [← hlow]; exact Nat.mod_lt _ (by decide)
 have hsum : (m % B) * A + m / B < 18446744073709551616 := by
  have h3 : (m % B + 1) * A ≤ B * A := Nat.mul_le_mul_right _ (Nat.mod_lt _ (by omega))
  rw [hBA, Nat.add_mul, Nat.one_mul] at h3
  omega
 unfold iE
 rw [hp, hp2, hq]
 have hmn : (((m % B) * A : Nat) : Int) % 2 ^ n = 0 := by rw [hAi, ← Int.natCast_emod, Nat.mul_mod_left]; rfl
 rw [← Int.natCast_ediv]
 generalize (m % B) * A = z at hlt hsum hmn ⊢
 generalize m / B = y at hd hsum ⊢
 rw [r7 n (z : Int) (y : Int) ⟨by omega, by omega⟩ hmn ⟨by omega, by omega⟩ (by rw [hAi]; omega), fX, fX]
 congr 1
 omega
theorem fK (l : List Int) (i j : Nat) (v : Int) (hi : i < l.length) : rd (l.set i v) (j : Int) = if j = i then v else rd l (j : Int) := by
 rw [jK, jK, List.getD_eq_getElem?_getD, List.getD_eq_getElem?_getD, List.getElem?_set]
 by_cases h : i = j
 ·subst h
  rw [Da rfl, Da rfl, Da hi]; rfl
 ·rw [Ea h, Ea (Ne.symm h)]
theorem gi (n j : Nat) : rd (List.replicate n 0) (j : Int) = 0 := by
 rw [jK, List.getD_eq_getElem?_getD]
 by_cases h : j < n
 ·rw [List.getElem?_replicate_of_lt h]; rfl
 ·rw [List.getElem?_eq_none (by rw [List.length_replicate]; omega)]; rfl
theorem ie {l u : List Int} (h : l.length = u.length) (hr : ∀ i : Nat, i < l.length → rd l (i : Int) = rd u (i : Int)) : l = u := by
 apply List.ext_getElem h
 intro i h1 h2
 have := hr i h1
 rw [dg l i h1, dg u i h2] at this
 exact this
theorem lc {P : Int → Prop} {l : List Int} (h : ∀ x ∈ l, P x) (i : Nat) (hi : i < l.length) : P (rd l (i : Int)) := by
 rw [dg l i hi]; exact h _ (List.getElem_mem hi)
def xr (a b : Int) : Int := Go.bits .xor .u64 a b
/-- A column's sum, n of its lanes. -/
def ra (a : List Int) (x : Nat) : Nat → Int
 | 0 => 0
 | n + 1 => xr (ra a x n) (rd a ((x + 5 * n : Nat) : Int))
theorem mK (a : List Int) (x : Nat) (hx : x < 5) : ∀ m, rd (thC a m) (x : Int) = ra a x ((m + 4 - x) / 5)
 | 0 => by
  rw [show (0 + 4 - x) / 5 = 0 by omega]
  exact gi 5 x
 | m + 1 => by
  simp only [thC]
  rw [fK _ _ _ _ (by rw [jv]; omega), mK a x hx m]
  by_cases h : x = m % 5
  ·rw [Da h, ← h, mK a x hx m, show (m + 1 + 4 - x) / 5 = (m + 4 - x) / 5 + 1 by omega]
   simp only [ra, xr]
   rw [show x + 5 * ((m + 4 - x) / 5) = m by omega]
  ·rw [Ea h, show (m + 1 + 4 - x) / 5 = (m + 4 - x) / 5 by omega]
/-- What is mixed into column x. -/
def oy (c : List Int) (x : Nat) : Int := xr (rd c (((x + 4) % 5 : Nat) : Int)) (iE (rd c (((x + 1) % 5 : Nat) : Int)) 1)
theorem n5 (a c : List Int) (i : Nat) : ∀ m, m ≤ a.length → rd (thA a c m) (i : Int) = if i < m then xr (rd a (i : Int)) (oy c (i % 5)) else rd a (i : Int)
 | 0, _ => by rw [Ea (by omega)]; rfl
 | m + 1, h => by
  simp only [thA]
  rw [fK _ _ _ _ (by rw [kO]; omega), n5 a c i m (by omega)]
  by_cases e : i = m
  ·subst e
   rw [Da rfl, Da (by omega), n5 a c i i (by omega), Ea (by omega)]
   rfl
  ·rw [Ea e]
   by_cases e2 : i < m
   ·rw [Da e2, Da (by omega)]
   ·rw [Ea e2, Ea (by omega)]
theorem oD (a : List Int) (i : Nat) : ∀ m, m ≤ 25 → rd (chA a m) (i : Int) = if i < m then xr (rd a (i : Int)) (Go.bits .and .u64 (lG (rd a (((i % 5 + 1) % 5 + 5 * (i / 5) : Nat) : Int))) (rd a (((i % 5 + 2) % 5 + 5 * (i / 5) : Nat) : Int))) else 0
 | 0, _ => by rw [Ea (by omega)]; exact gi 25 i
 | m + 1, h => by
  simp only [chA]
  rw [fK _ _ _ _ (by rw [gr]; omega), oD a i m (by omega)]
  by_cases e : i = m
  ·subst e
   rw [Da rfl, Da (by omega)]
   rfl
  ·rw [Ea e]
   by_cases e2 : i < m
   ·rw [Da e2, Da (by omega)]
   ·rw [Ea e2, Ea (by omega)]
/-- Where the lane at (x, y) gY. -/
def gY (x y : Nat) : Nat := y + 5 * ((2 * x + 3 * y) % 5)
theorem pR : ∀ x < 5, ∀ y < 5, ∀ u < 5, ∀ v < 5, gY x y = gY u v → x = u ∧ y = v := by
 intro x hx y hy u hu v hv h
 unfold gY at h
 have e : y = v := by omega
 subst e
 have e2 : (2 * x + 3 * y) % 5 = (2 * u + 3 * y) % 5 := by omega
 clear h
 omega
theorem pg (x y : Nat) (hy : y < 5) : gY x y < 25 := by unfold gY; omega
theorem nl : ∀ i < 25, ∃ x < 5, ∃ y < 5, gY x y = i := by decide
def fR : List Int := [0, 1, 62, 28, 27, 36, 44, 6, 55, 20, 3, 10, 43, 25, 39, 41, 45, 15, 21, 8, 18, 2, 61, 56, 14]
theorem oT : ∀ t < 24, (eU (t + 1)).1 + 5 * (eU (t + 1)).2 ≠ 0 := by decide
theorem rZ : ∀ s < 24, ∀ t < 24, (eU (s + 1)).1 + 5 * (eU (s + 1)).2 = (eU (t + 1)).1 + 5 * (eU (t + 1)).2 → s = t := by decide
theorem pK (a : List Int) (s : Nat) (hs : s < 24) : ∀ t, t ≤ 24 → rd (rpA a t) (((eU (s + 1)).1 + 5 * (eU (s + 1)).2 : Nat) : Int) = if s < t then iE (rd a (((eU s).1 + 5 * (eU s).2 : Nat) : Int)) (rpN s) else 0
 | 0, _ => by
  rw [Ea (by omega)]
  simp only [rpA]
  rw [fK _ _ _ _ (by decide), Ea (oT s hs)]
  exact gi 25 _
 | t + 1, h => by
  simp only [rpA]
  have hl := mR (t + 1)
  rw [fK _ _ _ _ (by rw [g9]; omega), pK a s hs t (by omega)]
  by_cases e : s = t
  ·subst e
   rw [Da rfl, Da (by omega)]
  ·rw [Ea (fun h2 => e (rZ s hs t (by omega) h2))]
   by_cases e2 : s < t
   ·rw [Da e2, Da (by omega)]
   ·rw [Ea e2, Ea (by omega)]
theorem o4 (a : List Int) : ∀ t, t ≤ 24 → rd (rpA a t) ((0 : Nat) : Int) = rd a ((0 : Nat) : Int)
 | 0, _ => by
  simp only [rpA]
  rw [fK _ _ _ _ (by decide), Da rfl]
 | t + 1, h => by
  simp only [rpA]
  have hl := mR (t + 1)
  rw [fK _ _ _ _ (by rw [g9]; omega), Ea (Ne.symm (oT t (by omega))), o4 a t (by omega)]
theorem qQ : ∀ x < 5, ∀ y < 5, (x = 0 ∧ y = 0) ∨ ∃ t < 24, (eU t).1 = x ∧ (eU t).2 = y ∧ gY x y = (eU (t + 1)).1 + 5 * (eU (t + 1)).2 ∧ rd fR ((x + 5 * y : Nat) : Int) = ((rpN t : Nat) : Int) ∧ rpN t < 64 := by decide
/-- A lane turned and moved. -/
theorem nP (a : List Int) (ha : ∀ x ∈ a, W64 x) (hl : a.length = 25) (x y : Nat) (hx : x < 5) (hy : y < 5) : ∃ n < 64, rd fR ((x + 5 * y : Nat) : Int) = ((n : Nat) : Int) ∧ rd (el.v a) ((gY x y : Nat) : Int) = iE (rd a ((x + 5 * y : Nat) : Int)) n := by
 rcases qQ x hx y hy with ⟨rfl, rfl⟩ | ⟨t, ht, h1, h2, h3, h4, h5⟩
 ·refine ⟨0, by decide, by decide, ?_⟩
  rw [ms _ (lc ha _ (by omega))]
  exact o4 a 24 (Aa _)
 ·refine ⟨rpN t, h5, h4, ?_⟩
  rw [h3, el.v, pK a t ht 24 (Aa _), Da ht, h1, h2]
theorem ne (a : List Int) (hl : a.length = 25) (i : Nat) (hi : i < 25) : rd (dI.v a) (i : Int) = xr (rd a (i : Int)) (oy (thC a 25) (i % 5)) := by
 unfold dI.v
 rw [n5 a _ i 25 (by omega), Da hi]
theorem mT {P : Int → Prop} {l : List Int} (h : ∀ i : Nat, i < l.length → P (rd l (i : Int))) : ∀ x ∈ l, P x := by
 intro x hx
 obtain ⟨i, hi, rfl⟩ := List.mem_iff_getElem.mp hx
 have := h i hi
 rw [dg l i hi] at this
 exact this
theorem ru (a : List Int) (hl : a.length = 25) : ∀ x ∈ dI.v a, W64 x :=
 mT fun i hi => by rw [ne a hl i (by rw [jM a hl] at hi; exact hi)]; exact W64.xor _ _
theorem ss (a : List Int) : ∀ x ∈ d3.v a, W64 x :=
 mT fun i hi => by
  unfold d3.v at hi ⊢
  rw [gr] at hi
  rw [oD a i 25 (Aa _), Da hi]; exact W64.xor _ _
theorem sj (a : List Int) (j : Nat) (hj : j < 5) : W64 (rd (thC a 25) (j : Int)) := by
 rw [mK a j hj 25, show (25 + 4 - j) / 5 = 5 by omega]
 exact W64.xor _ _
/-- The columns' ic, as the reference makes them. -/
def cL (a : List Int) : Nat → List Int
 | 0 => List.replicate 5 0
 | i + 1 => (cL a i).set i (xr (xr (xr (xr (rd a (i : Int)) (rd a ((i + 5 : Nat) : Int))) (rd a ((i + 10 : Nat) : Int))) (rd a ((i + 15 : Nat) : Int))) (rd a ((i + 20 : Nat) : Int)))
theorem lH (a : List Int) : ∀ i, (cL a i).length = 5
 | 0 => rfl
 | i + 1 => by simp only [cL, List.length_set, lH a i]
theorem rB (a : List Int) (j : Nat) : ∀ i, i ≤ 5 → j < i → rd (cL a i) (j : Int) = xr (xr (xr (xr (rd a (j : Int)) (rd a ((j + 5 : Nat) : Int))) (rd a ((j + 10 : Nat) : Int))) (rd a ((j + 15 : Nat) : Int))) (rd a ((j + 20 : Nat) : Int))
 | 0, _, h => absurd h (by omega)
 | i + 1, h, hj => by
  simp only [cL]
  rw [fK _ _ _ _ (by rw [lH]; omega)]
  by_cases e : j = i
  ·subst e; rw [Da rfl]
  ·rw [Ea e, rB a j i (by omega) (by omega)]
theorem r4 (a : List Int) (hl : a.length = 25) (ha : ∀ x ∈ a, W64 x) : cL a 5 = thC a 25 := by
 apply ie (by rw [lH, jv])
 intro i hi
 rw [lH] at hi
 rw [rB a i 5 (Aa _) hi, mK a i hi 25, show (25 + 4 - i) / 5 = 5 by omega]
 simp only [ra, xr]
 rw [show i + 5 * 0 = i by omega, np _ (lc ha i (by omega))]
/-- The lanes turned and moved, n of them, as the reference makes them. -/
def bL (a : List Int) : Nat → List Int
 | 0 => List.replicate 25 0
 | n + 1 => (bL a n).set (gY (n / 5) (n % 5)) (iE (xr (rd a ((n / 5 + 5 * (n % 5) : Nat) : Int)) (oy (thC a 25) (n / 5))) (rd fR ((n / 5 + 5 * (n % 5) : Nat) : Int)).toNat)
theorem jj (a : List Int) : ∀ i, (bL a i).length = 25
 | 0 => rfl
 | i + 1 => by simp only [bL, List.length_set, jj a i]
theorem qg (a : List Int) (x y : Nat) (hx : x < 5) (hy : y < 5) : ∀ n, n ≤ 25 → 5 * x + y < n → rd (bL a n) ((gY x y : Nat) : Int) = iE (xr (rd a ((x + 5 * y : Nat) : Int)) (oy (thC a 25) x)) (rd fR ((x + 5 * y : Nat) : Int)).toNat
 | 0, _, h => absurd h (by omega)
 | n + 1, h, hj => by
  simp only [bL]
  rw [fK _ _ _ _ (by rw [jj]; exact pg _ _ (by omega))]
  by_cases e : 5 * x + y = n
  ·have e1 : n / 5 = x := by omega
   have e2 : n % 5 = y := by omega
   rw [e1, e2, Da rfl]
  ·rw [Ea (fun h2 => by have := pR x hx y hy (n / 5) (by omega) (n % 5) (by omega) h2; omega), qg a x y hx hy n (by omega) (by omega)]
theorem pH (a : List Int) (hl : a.length = 25) : bL a 25 = el.v (dI.v a) := by
 apply ie (by rw [jj, my])
 intro i hi
 rw [jj] at hi
 obtain ⟨x, hx, y, hy, rfl⟩ := nl i hi
 obtain ⟨n, hn, h1, h2⟩ := nP (dI.v a) (ru a hl) (jM a hl) x y hx hy
 rw [qg a x y hx hy 25 (Aa _) (by omega), h1, h2, ne a hl _ (by omega), show (x + 5 * y) % 5 = x by omega, Int.toNat_natCast]
/-- The rows mixed, n lanes, as the reference makes them. -/
def hL (b : List Int) : Nat → List Int
 | 0 => List.replicate 25 0
 | n + 1 => (hL b n).set (n / 5 + 5 * (n % 5)) (xr (rd b ((n / 5 + 5 * (n % 5) : Nat) : Int)) (Go.bits .and .u64 (lG (rd b (((n / 5 + 1) % 5 + 5 * (n % 5) : Nat) : Int))) (rd b (((n / 5 + 2) % 5 + 5 * (n % 5) : Nat) : Int))))
theorem jO (b : List Int) : ∀ i, (hL b i).length = 25
 | 0 => rfl
 | i + 1 => by simp only [hL, List.length_set, jO b i]
theorem rD (b : List Int) (x y : Nat) (hx : x < 5) (hy : y < 5) : ∀ n, n ≤ 25 → 5 * x + y < n → rd (hL b n) ((x + 5 * y : Nat) : Int) = xr (rd b ((x + 5 * y : Nat) : Int)) (Go.bits .and .u64 (lG (rd b (((x + 1) % 5 + 5 * y : Nat) : Int))) (rd b (((x + 2) % 5 + 5 * y : Nat) : Int)))
 | 0, _, h => absurd h (by omega)
 | n + 1, h, hj => by
  simp only [hL]
  rw [fK _ _ _ _ (by rw [jO]; omega)]
  by_cases e : 5 * x + y = n
  ·have e1 : n / 5 = x := by omega
   have e2 : n % 5 = y := by omega
   rw [e1, e2, Da rfl]
  ·rw [Ea (by omega), rD b x y hx hy n (by omega) (by omega)]
theorem rT (b : List Int) : hL b 25 = d3.v b := by
 apply ie (by rw [jO]; exact (gr _ _).symm)
 intro i hi
 rw [jO] at hi
 have h1 := rD b (i % 5) (i / 5) (by omega) (by omega) 25 (Aa _) (by omega)
 rw [show i % 5 + 5 * (i / 5) = i by omega] at h1
 rw [h1, d3.v, oD b i 25 (Aa _), Da hi]
def oc (a : List Int) (rc : Int) : List Int := (ff a).set 0 (Go.bits .xor .u64 (rd (ff a) ((0 : Nat) : Int)) rc)
theorem qn (b : List Int) (hb : b.length = 25) (hw : ∀ x ∈ b, W64 x) (rc : Int) : Ev (fun k => ae.l3 k rc b (List.replicate 25 0) 0) ((d3.v b).set 0 (Go.bits .xor .u64 (rd (d3.v b) ((0 : Nat) : Int)) rc)) := by
 refine Ev.up (g := fun i k => ae.l3 k rc b (hL b (5 * i)) (i : Int)) 5 ?_ ?_ 0 (Nat.zero_le _)
 ·intro x hx hh
  refine Ev.step (f := fun k => ae.l4 k rc b (hL b (5 * x)) (x : Int) 0) (fun k => ?_) ?_
  ·simp only [ae.l3]
   rw [Da (by omega)]
  ·refine Ev.up (g := fun j k => ae.l4 k rc b (hL b (5 * x + j)) (x : Int) (j : Int)) 5 ?_ ?_ 0 (Nat.zero_le _)
   ·intro y hy h2
    refine Ev.step (fun k => ?_) h2
    have e1 : wrap64 ((x : Int) + wrap64 (5 * (y : Int))) = ((x + 5 * y : Nat) : Int) := by
     rw [w64 (x := 5 * (y : Int)) (by omega) (by omega), w64 (by omega) (by omega)]; omega
    have e2 : wrap64 (Int.tmod (wrap64 ((x : Int) + 1)) 5 + wrap64 (5 * (y : Int))) = (((x + 1) % 5 + 5 * y : Nat) : Int) := by
     rw [w64 (x := (x : Int) + 1) (by omega) (by omega), w64 (x := 5 * (y : Int)) (by omega) (by omega), Int.tmod_eq_emod_of_nonneg (by omega), w64 (by omega) (by omega)]; omega
    have e3 : wrap64 (Int.tmod (wrap64 ((x : Int) + 2)) 5 + wrap64 (5 * (y : Int))) = (((x + 2) % 5 + 5 * y : Nat) : Int) := by
     rw [w64 (x := (x : Int) + 2) (by omega) (by omega), w64 (x := 5 * (y : Int)) (by omega) (by omega), Int.tmod_eq_emod_of_nonneg (by omega), w64 (by omega) (by omega)]; omega
    simp only [ae.l4, e1, e2, e3]
    have hl := jO b (5 * x + y)
    rw [Da (by omega), Da (by omega), Da (by omega), Da (by omega), Da (by omega), Da (by omega), Da (by omega), Da (by omega), dv y (by omega), qE _ (lc hw _ (by omega)), Int.toNat_natCast]
    congr 1
    show _ = hL b (5 * x + y + 1)
    simp only [hL, xr]
    rw [show (5 * x + y) / 5 = x by omega, show (5 * x + y) % 5 = y by omega]
   ·refine Ev.step (fun k => ?_) hh
    simp only [ae.l4]
    rw [Ea (by omega), dv x (by omega)]
    rfl
 ·refine Ev.step (f := fun _ => some ((d3.v b).set 0 (Go.bits .xor .u64 (rd (d3.v b) ((0 : Nat) : Int)) rc))) (fun k => ?_) (Ev.now _)
  simp only [ae.l3]
  have hl := jO b 25
  rw [Ea (by omega), show 5 * 5 = 25 from rfl, Da (by omega), rT]
  rfl
theorem qT (x y : Nat) (hx : x < 5) (hy : y < 5) : wrap64 ((y : Int) + wrap64 (5 * Int.tmod (wrap64 (wrap64 (2 * (x : Int)) + wrap64 (3 * (y : Int)))) 5)) = ((gY x y : Nat) : Int) := by
 have h1 : wrap64 (2 * (x : Int)) = 2 * (x : Int) := w64 (by omega) (by omega)
 have h2 : wrap64 (3 * (y : Int)) = 3 * (y : Int) := w64 (by omega) (by omega)
 have h3 : wrap64 (2 * (x : Int) + 3 * (y : Int)) = 2 * (x : Int) + 3 * (y : Int) := w64 (by omega) (by omega)
 rw [h1, h2, h3, Int.tmod_eq_emod_of_nonneg (by omega)]
 have h4 : wrap64 (5 * ((2 * (x : Int) + 3 * (y : Int)) % 5)) = 5 * ((2 * (x : Int) + 3 * (y : Int)) % 5) := w64 (by omega) (by omega)
 rw [h4, w64 (by omega) (by omega)]
 unfold gY
 omega
theorem rh (x y : Nat) (hx : x < 5) (hy : y < 5) : wrap64 ((x : Int) + wrap64 (5 * (y : Int))) = ((x + 5 * y : Nat) : Int) := by
 have h1 : wrap64 (5 * (y : Int)) = 5 * (y : Int) := w64 (by omega) (by omega)
 rw [h1, w64 (by omega) (by omega)]
 omega
theorem qz (a c T : List Int) (B : Nat → List Int) (hl : a.length = 25) (rc : Int) (r : List Int) (hc : c.length = 5) (hcw : ∀ j : Nat, j < 5 → W64 (rd c (j : Int))) (htl : T.length = 25)
  (hT : ∀ x y : Nat, x < 5 → y < 5 → ∃ n < 64, rd T ((x + 5 * y : Nat) : Int) = ((n : Nat) : Int)) (hB0 : B 0 = List.replicate 25 0) (hBl : ∀ n, (B n).length = 25)
  (hBs : ∀ x y : Nat, x < 5 → y < 5 → B (5 * x + y + 1) = (B (5 * x + y)).set (gY x y) (iE (xr (rd a ((x + 5 * y : Nat) : Int)) (oy c x)) (rd T ((x + 5 * y : Nat) : Int)).toNat))
  (h : Ev (fun k => ae.l3 k rc (B 25) (List.replicate 25 0) 0) r) : Ev (fun k => ae.l1 k a T rc c (List.replicate 25 0) 0) r := by
 rw [← hB0]
 refine Ev.up (g := fun i k => ae.l1 k a T rc c (B (5 * i)) (i : Int)) 5 ?_ ?_ 0 (Nat.zero_le _)
 ·intro x hx hh
  have e1 : Int.tmod (wrap64 ((x : Int) + 4)) 5 = (((x + 4) % 5 : Nat) : Int) := by
   rw [w64 (x := (x : Int) + 4) (by omega) (by omega), Int.tmod_eq_emod_of_nonneg (by omega)]; omega
  have e2 : Int.tmod (wrap64 ((x : Int) + 1)) 5 = (((x + 1) % 5 : Nat) : Int) := by
   rw [w64 (x := (x : Int) + 1) (by omega) (by omega), Int.tmod_eq_emod_of_nonneg (by omega)]; omega
  refine Ev.step (f := fun k => (bu.f k (rd c (((x + 1) % 5 : Nat) : Int)) ((1 : Nat) : Int)).bind fun t => ae.l2 k a T rc c (B (5 * x)) (x : Int) (Go.bits .xor .u64 (rd c (((x + 4) % 5 : Nat) : Int)) t) ((0 : Nat) : Int)) (fun k => ?_) ?_
  ·simp only [ae.l1, e1, e2]
   rw [Da (by omega), Da (by omega), Da (by omega), Da (by omega), Da (by omega)]
   rfl
  ·refine Ev.bind (oU _ 1 (hcw _ (by omega)) (by decide)) ?_
   have hm : Go.bits .xor .u64 (rd c (((x + 4) % 5 : Nat) : Int)) (iE (rd c (((x + 1) % 5 : Nat) : Int)) 1) = oy c x := rfl
   rw [hm]
   clear hm e1 e2
   have hB2 := fun y hy => hBs x y hx hy
   generalize oy c x = D at hB2 ⊢
   refine Ev.up (g := fun j k => ae.l2 k a T rc c (B (5 * x + j)) (x : Int) D (j : Int)) 5 ?_ ?_ 0 (Nat.zero_le _)
   ·intro y hy h2
    have hg := pg x y hy
    have hbl := hBl (5 * x + y)
    have c1 : (y : Int) < 5 := by omega
    have c2 : (0 : Int) ≤ ((x + 5 * y : Nat) : Int) := by omega
    have c3 : ((x + 5 * y : Nat) : Int) < (a.length : Int) := by rw [hl]; omega
    have c4 : ((x + 5 * y : Nat) : Int) < (T.length : Int) := by rw [htl]; omega
    have c5 : y < 9223372036854775807 := by omega
    have c6 : (0 : Int) ≤ ((gY x y : Nat) : Int) := by omega
    have c7 : ((gY x y : Nat) : Int) < ((B (5 * x + y)).length : Int) := by rw [hbl]; omega
    have e1 := rh x y hx hy
    have e2 := qT x y hx hy
    obtain ⟨n, hn, h3⟩ := hT x y hx hy
    refine Ev.step (f := fun k => (bu.f k (Go.bits .xor .u64 (rd a ((x + 5 * y : Nat) : Int)) D) ((n : Nat) : Int)).bind fun t => ae.l2 k a T rc c ((B (5 * x + y)).set (gY x y) t) (x : Int) D ((y + 1 : Nat) : Int)) (fun k => ?_) ?_
    ·simp only [ae.l2, e1, e2, h3]
     rw [Da c1, Da c2, Da c3, Da c4, dv y c5]
     congr 1
     funext t
     rw [Da c6, Da c7, Int.toNat_natCast]
    ·refine Ev.bind (oU _ n (W64.xor _ _) hn) ?_
     have h4 := hB2 y hy
     rw [h3, Int.toNat_natCast] at h4
     unfold xr at h4
     rw [show 5 * x + (y + 1) = 5 * x + y + 1 from rfl, h4] at h2
     exact h2
   ·refine Ev.step (fun k => ?_) hh
    simp only [ae.l2]
    rw [Ea (by omega), dv x (by omega), show 5 * x + 5 = 5 * (x + 1) by omega]
 ·refine Ev.step (fun k => ?_) h
  simp only [ae.l1]
  rw [Ea (by omega), Da (by decide)]
theorem sN (a : List Int) (hl : a.length = 25) : ∀ x ∈ bL a 25, W64 x := by
 refine mT fun i hi => ?_
 rw [jj] at hi
 obtain ⟨x, hx, y, hy, rfl⟩ := nl i hi
 rw [qg a x y hx hy 25 (Aa _) (by omega)]
 exact rN _ _
theorem rU (a : List Int) (hl : a.length = 25) (ha : ∀ x ∈ a, W64 x) (rc : Int) : Ev (fun k => ae.l1 k a fR rc (thC a 25) (List.replicate 25 0) 0) (oc a rc) := by
 refine qz a (thC a 25) fR (bL a) hl rc _ (jv a 25) (sj a) rfl ?_ rfl (jj a) ?_ ?_
 ·intro x y hx hy
  obtain ⟨n, hn, h3, _⟩ := nP a ha hl x y hx hy
  exact ⟨n, hn, h3⟩
 ·intro x y hx hy
  simp only [bL]
  rw [show (5 * x + y) / 5 = x by omega, show (5 * x + y) % 5 = y by omega]
 ·have h := qn (bL a 25) (jj a 25) (sN a hl) rc
  rw [show d3.v (bL a 25) = ff a by rw [pH a hl]; rfl] at h
  exact h
theorem qt (a : List Int) (hl : a.length = 25) (ha : ∀ x ∈ a, W64 x) (rc : Int) : Ev (fun k => ae.f k a fR rc) (oc a rc) := by
 unfold ae.f
 refine Ev.pos (by decide) ?_
 refine Ev.up (g := fun i k => ae.l0 k a fR rc (cL a i) (i : Int)) 5 ?_ ?_ 0 (Nat.zero_le _)
 ·intro i hi hh
  refine Ev.step (fun k => ?_) hh
  have hc := lH a i
  have e5 : wrap64 ((i : Int) + 5) = ((i + 5 : Nat) : Int) := by rw [w64 (by omega) (by omega)]; rfl
  have e10 : wrap64 ((i : Int) + 10) = ((i + 10 : Nat) : Int) := by rw [w64 (by omega) (by omega)]; rfl
  have e15 : wrap64 ((i : Int) + 15) = ((i + 15 : Nat) : Int) := by rw [w64 (by omega) (by omega)]; rfl
  have e20 : wrap64 ((i : Int) + 20) = ((i + 20 : Nat) : Int) := by rw [w64 (by omega) (by omega)]; rfl
  simp only [ae.l0, e5, e10, e15, e20]
  rw [Da (by omega), Da (by omega), Da (by omega), Da (by omega), Da (by omega), Da (by omega), Da (by omega), Da (by omega), Da (by omega), Da (by omega), Da (by omega), Da (by omega), dv i (by omega), Int.toNat_natCast]
  rfl
 ·refine Ev.step (f := fun k => ae.l1 k a fR rc (thC a 25) (List.replicate 25 0) 0) (fun k => ?_) (rU a hl ha rc)
  simp only [ae.l0]
  rw [Ea (by omega), Da (by decide), r4 a hl ha]
theorem qu : Ev (fun k => bF.f k) fR := Ev.of (fun k => bF.mono k) (k := 40) (by kernel_rfl)
def rcL : List Int := (List.range 24).map rcV
theorem pB : Ev (fun k => aW.f k) rcL := Ev.of (fun k => aW.mono k) (k := 300) (by kernel_rfl)
theorem sb (t : Nat) (h : t < 24) : rd rcL (t : Int) = rcV t := by
 rw [dg _ t (by unfold rcL; simpa using h)]
 simp only [rcL, List.getElem_map, List.getElem_range]
theorem qH : rcL.length = 24 := by unfold rcL; simp
theorem pX (a : List Int) (rc : Int) : ∀ x ∈ oc a rc, W64 x := by
 intro x hx
 rcases List.mem_or_eq_of_mem_set hx with h | h
 ·exact ss _ x h
 ·rw [h]; exact W64.xor _ _
theorem oX (a : List Int) (ha : ∀ x ∈ a, W64 x) : ∀ t, ∀ x ∈ gw a t, W64 x
 | 0 => ha
 | t + 1 => pX _ _
theorem oW (a : List Int) (hl : a.length = 25) (ha : ∀ x ∈ a, W64 x) : Ev (fun k => aX.f k a) (cC.v a) := by
 unfold aX.f
 refine Ev.bind qu (Ev.bind pB ?_)
 refine Ev.up (g := fun i k => aX.l0 k (gw a i) fR rcL (i : Int)) 24 ?_ ?_ 0 (Nat.zero_le _)
 ·intro t ht hh
  have c1 : (t : Int) < 24 := by omega
  have c2 : (0 : Int) ≤ (t : Int) := by omega
  have c3 : (t : Int) < (rcL.length : Int) := by rw [qH]; omega
  have c4 := dv t (by omega)
  refine Ev.step (f := fun k => (ae.f k (gw a t) fR (rcV t)).bind fun u => aX.l0 k u fR rcL ((t + 1 : Nat) : Int)) (fun k => ?_) ?_
  ·simp only [aX.l0]
   rw [Da c1, Da c2, Da c3, c4, sb t ht]
  ·exact Ev.bind (qt _ (gb a t hl) (oX a ha t) _) hh
 ·refine Ev.step (f := fun _ => some (cC.v a)) (fun k => ?_) (Ev.now _)
  simp only [aX.l0]
  rw [Ea (by omega)]
  rfl
/-- The number of n bytes, the lowest first. -/
def pb (f : Nat → Int) : Nat → Int
 | 0 => 0
 | j + 1 => pb f j + f j * ((2 ^ (8 * j) : Nat) : Int)
theorem kg (f : Nat → Int) (hf : ∀ q, 0 ≤ f q ∧ f q ≤ 255) : ∀ n, 0 ≤ pb f n ∧ pb f n < ((2 ^ (8 * n) : Nat) : Int)
 | 0 => by simp [pb]
 | n + 1 => by
  have ih := kg f hf n
  have hn := hf n
  simp only [pb]
  have e : 2 ^ (8 * (n + 1)) = 256 * 2 ^ (8 * n) := by rw [Nat.mul_add, Nat.pow_add, Nat.mul_comm]
  rw [e]
  generalize 2 ^ (8 * n) = A at ih ⊢
  have h1 : f n * (A : Int) ≤ 255 * (A : Int) := Int.mul_le_mul_of_nonneg_right hn.2 (by omega)
  have h2 : 0 ≤ f n * (A : Int) := Int.mul_nonneg hn.1 (by omega)
  generalize f n * (A : Int) = z at h1 h2 ⊢
  omega
theorem iD (s : ByteArray) (i : Int) : 0 ≤ bt s i ∧ bt s i ≤ 255 := by have := dC s i; omega
/-- The bytes of lane i. -/
def lb (s : ByteArray) (i : Nat) (q : Nat) : Int := bt s ((8 * i + q : Nat) : Int)
def fW (s : ByteArray) (i : Nat) : Int := pb (lb s i) 8
theorem qL (s : ByteArray) (i : Nat) : W64 (fW s i) := by
 have h := kg (lb s i) (fun q => iD s _) 8
 exact ⟨h.1, h.2⟩
theorem qZ (f : Nat → Int) (hf : ∀ q, 0 ≤ f q ∧ f q ≤ 255) (j : Nat) (hj : j < 8) : Go.bits .or .u64 (pb f j) (IntKind.u64.wrap (IntKind.u64.wrap (f j) * 2 ^ min (8 * j) 64)) = pb f (j + 1) := by
 have hb := hf j
 have h1 := kg f hf j
 have h9 := kg f hf (j + 1)
 have hA : 2 ^ (8 * j) ≤ 2 ^ 56 := Nat.pow_le_pow_right (by decide) (by omega)
 have hB : 2 ^ (8 * (j + 1)) ≤ 2 ^ 64 := Nat.pow_le_pow_right (by decide) (by omega)
 rw [Nat.min_eq_left (by omega), show (2 : Int) ^ (8 * j) = ((2 ^ (8 * j) : Nat) : Int) by rw [Int.natCast_pow]; rfl]
 simp only [pb] at h9 ⊢
 have hi : (2 : Int) ^ (8 * j) = ((2 ^ (8 * j) : Nat) : Int) := by rw [Int.natCast_pow]; rfl
 have e1 : IntKind.u64.wrap (f j) = f j := by rw [fX]; omega
 have h2 : 0 ≤ f j * ((2 ^ (8 * j) : Nat) : Int) := Int.mul_nonneg hb.1 (by omega)
 have h3 : f j * ((2 ^ (8 * j) : Nat) : Int) % ((2 ^ (8 * j) : Nat) : Int) = 0 := Int.mul_emod_left _ _
 rw [e1]
 have h4 : f j * ((2 ^ (8 * j) : Nat) : Int) < 18446744073709551616 := by
  generalize f j * ((2 ^ (8 * j) : Nat) : Int) = z at h2 h9 ⊢
  omega
 have e2 : IntKind.u64.wrap (f j * ((2 ^ (8 * j) : Nat) : Int)) = f j * ((2 ^ (8 * j) : Nat) : Int) := by
  rw [fX]
  generalize f j * ((2 ^ (8 * j) : Nat) : Int) = z at h2 h4 ⊢
  omega
 rw [e2]
 exact si (8 * j) _ _ ⟨h1.1, by omega⟩ (by rw [hi]; exact h1.2) ⟨h2, h4⟩ (by rw [hi]; exact h3)
theorem jP (s : ByteArray) (i : Nat) (hi : i < 25) : ∀ m, m ≤ 200 → rd (fT s m) (i : Int) = pb (lb s i) (min 8 (m - 8 * i))
 | 0, _ => by
  rw [show min 8 (0 - 8 * i) = 0 by omega]
  exact gi 25 i
 | m + 1, h => by
  simp only [fT]
  rw [fK _ _ _ _ (by rw [eA]; omega), jP s i hi m (by omega)]
  by_cases e : i = m / 8
  ·rw [Da e, ← e, jP s i hi m (by omega), show min 8 (m - 8 * i) = m % 8 by omega, show min 8 (m + 1 - 8 * i) = m % 8 + 1 by omega, ← qZ (lb s i) (fun q => iD s _) (m % 8) (by omega)]
   unfold lb
   rw [show 8 * i + m % 8 = m by omega]
  ·rw [Ea e, show min 8 (m + 1 - 8 * i) = min 8 (m - 8 * i) by omega]
theorem jc (s : ByteArray) : cZ.v s = (List.range 25).map (fW s) := by
 unfold cZ.v
 apply ie (by rw [eA]; rfl)
 intro i hi
 rw [eA] at hi
 rw [jP s i hi 200 (Aa _), dg _ i (by simpa using hi), List.getElem_map, List.getElem_range, show min 8 (200 - 8 * i) = 8 by omega]
 rfl
/-- The same number, from its highest byte on. -/
def hv (f : Nat → Int) : Nat → Int
 | 0 => 0
 | n + 1 => hv f n * 256 + f (7 - n)
theorem rA (f : Nat → Int) (hf : ∀ q, 0 ≤ f q ∧ f q ≤ 255) : ∀ n, 0 ≤ hv f n ∧ hv f n < ((2 ^ (8 * n) : Nat) : Int)
 | 0 => by simp [hv]
 | n + 1 => by
  have ih := rA f hf n
  have hn := hf (7 - n)
  simp only [hv]
  have e : 2 ^ (8 * (n + 1)) = 256 * 2 ^ (8 * n) := by rw [Nat.mul_add, Nat.pow_add, Nat.mul_comm]
  rw [e]
  generalize 2 ^ (8 * n) = A at ih ⊢
  omega
theorem sr (f : Nat → Int) : hv f 8 = pb f 8 := by
 simp only [hv, pb]
 simp only [Nat.reduceSub, Nat.reduceMul, Nat.reducePow]
 omega
theorem ng (s : ByteArray) (n : Nat) (hs : s.size = 8 * n) (hn : n ≤ 1000) : Ev (fun k => aQ.f k s) ((List.range n).map (fW s)) := by
 unfold aQ.f
 refine Ev.up (g := fun i k => aQ.l0 k s ((List.range i).map (fW s)) ((8 * i : Nat) : Int)) n ?_ ?_ 0 (Nat.zero_le _)
 ·intro i hi hh
  refine Ev.step (f := fun k => aQ.l1 k s ((List.range i).map (fW s)) ((8 * i : Nat) : Int) 0 7) (fun k => ?_) ?_
  ·simp only [aQ.l0]
   rw [Da (by rw [w64 (by omega) (by omega)]; omega)]
  ·refine Ev.up (g := fun j k => aQ.l1 k s ((List.range i).map (fW s)) ((8 * i : Nat) : Int) (hv (lb s i) j) (7 - (j : Int))) 8 ?_ ?_ 0 (Nat.zero_le _)
   ·intro j hj h2
    refine Ev.step (fun k => ?_) h2
    have e1 : wrap64 (((8 * i : Nat) : Int) + (7 - (j : Int))) = ((8 * i + (7 - j) : Nat) : Int) := by rw [w64 (by omega) (by omega)]; omega
    have e2 : wrap64 (7 - (j : Int) - 1) = 7 - ((j + 1 : Nat) : Int) := by rw [w64 (by omega) (by omega)]; omega
    have hA : 2 ^ (8 * j) ≤ 2 ^ 56 := Nat.pow_le_pow_right (by decide) (by omega)
    have h3 := rA (lb s i) (fun q => iD s _) j
    have h4 := iD s ((8 * i + (7 - j) : Nat) : Int)
    have c1 : 7 - (j : Int) ≥ 0 := by omega
    have c2 : (0 : Int) ≤ ((8 * i + (7 - j) : Nat) : Int) := by omega
    have c3 : ((8 * i + (7 - j) : Nat) : Int) < (s.size : Int) := by omega
    simp only [aQ.l1, e1, e2]
    rw [Da c1, Da c2, Da c3]
    congr 1
    simp only [hv]
    show _ = _ + bt s ((8 * i + (7 - j) : Nat) : Int)
    generalize hv (lb s i) j = z at h3 ⊢
    generalize bt s ((8 * i + (7 - j) : Nat) : Int) = b at h4 ⊢
    rw [fX, fX, fX]
    omega
   ·refine Ev.step (fun k => ?_) hh
    simp only [aQ.l1]
    rw [Ea (by omega), Da (by simp; omega), sr, w64 (by omega) (by omega), List.range_succ, List.map_append]
    rfl
 ·refine Ev.step (f := fun _ => some ((List.range n).map (fW s))) (fun k => ?_) (Ev.now _)
  simp only [aQ.l0]
  rw [Ea (by rw [w64 (by omega) (by omega)]; omega)]
/-- The byte m of lanes. -/
def fh (xs : List Int) (m : Nat) : Int := rd xs ((m / 8 : Nat) : Int) / 2 ^ (8 * (m % 8)) % 256
theorem jn (xs : List Int) (i : Nat) : ∀ m, m ≤ 200 → rd (fG xs m) (i : Int) = if i < m then fh xs i else 0
 | 0, _ => by rw [Ea (by omega)]; exact gi 200 i
 | m + 1, h => by
  simp only [fG]
  rw [fK _ _ _ _ (by rw [dj]; omega), jn xs i m (by omega)]
  by_cases e : i = m
  ·subst e
   rw [Da rfl, Da (by omega)]
   rfl
  ·rw [Ea e]
   by_cases e2 : i < m
   ·rw [Da e2, Da (by omega)]
   ·rw [Ea e2, Ea (by omega)]
theorem nz (xs : List Int) : fG xs 200 = (List.range 200).map (fh xs) := by
 apply ie (by rw [dj]; simp)
 intro i hi
 rw [dj] at hi
 rw [jn xs i 200 (Aa _), Da hi, dg _ i (by simpa using hi), List.getElem_map, List.getElem_range]
theorem qy (xs : List Int) (hx : ∀ x ∈ xs, W64 x) (hl : xs.length ≤ 1000) : Ev (fun k => aN.f k xs) (strOfNums ((List.range (8 * xs.length)).map (fh xs))) := by
 unfold aN.f
 refine Ev.up (g := fun i k => aN.l0 k xs ((List.range (8 * i)).map (fh xs)) (i : Int)) xs.length ?_ ?_ 0 (Nat.zero_le _)
 ·intro i hi hh
  have hw := lc hx i hi
  refine Ev.step (f := fun k => aN.l1 k xs ((List.range (8 * i + 0)).map (fh xs)) (i : Int) (rd xs (i : Int) / 2 ^ (8 * 0)) ((0 : Nat) : Int)) (fun k => ?_) ?_
  ·simp only [aN.l0]
   rw [Da (by omega), Da (by omega), Nat.mul_zero, Int.pow_zero, Int.ediv_one]
   rfl
  ·refine Ev.up (g := fun j k => aN.l1 k xs ((List.range (8 * i + j)).map (fh xs)) (i : Int) (rd xs (i : Int) / 2 ^ (8 * j)) (j : Int)) 8 ?_ ?_ 0 (Nat.zero_le _)
   ·intro j hj h2
    refine Ev.step (fun k => ?_) h2
    have hA : (0 : Int) < 2 ^ (8 * j) := Int.pow_pos (by decide)
    have h3 : 0 ≤ rd xs (i : Int) / 2 ^ (8 * j) := Int.ediv_nonneg hw.1 (by omega)
    have h4 : rd xs (i : Int) / 2 ^ (8 * j) ≤ rd xs (i : Int) := Int.ediv_le_self _ hw.1
    have h5 := hw.2
    have e1 : rd xs (i : Int) / 2 ^ (8 * j) / 256 = rd xs (i : Int) / 2 ^ (8 * (j + 1)) := by
     rw [Int.ediv_ediv_of_nonneg (by omega), Nat.mul_add, Int.pow_add]; rfl
    have e3 : fh xs (8 * i + j) = rd xs (i : Int) / 2 ^ (8 * j) % 256 := by
     unfold fh
     rw [show (8 * i + j) / 8 = i by omega, show (8 * i + j) % 8 = j by omega]
    have e2 : (List.range (8 * i + (j + 1))).map (fh xs) = (List.range (8 * i + j)).map (fh xs) ++ [rd xs (i : Int) / 2 ^ (8 * j) % 256] := by
     rw [show 8 * i + (j + 1) = 8 * i + j + 1 from rfl, List.range_succ, List.map_append, List.map_singleton, e3]
    simp only [aN.l1]
    rw [Da (by omega), Da (by simp; omega), dv j (by omega), e2, ← e1]
    generalize rd xs (i : Int) / 2 ^ (8 * j) = z at h3 h4 ⊢
    rw [Int.tdiv_eq_ediv_of_nonneg h3, Int.tmod_eq_emod_of_nonneg h3, fX]
    congr 1
    ·congr 2; omega
    ·omega
   ·refine Ev.step (fun k => ?_) hh
    simp only [aN.l1]
    rw [Ea (by omega), dv i (by omega), show 8 * i + 8 = 8 * (i + 1) by omega]
 ·refine Ev.step (f := fun _ => some (strOfNums ((List.range (8 * xs.length)).map (fh xs)))) (fun k => ?_) (Ev.now _)
  simp only [aN.l0]
  rw [Ea (by omega)]
theorem oS (xs : List Int) (hx : ∀ x ∈ xs, W64 x) (hl : xs.length = 25) : Ev (fun k => aN.f k xs) (fw.v xs) := by
 have h := qy xs hx (by omega)
 rw [hl, ← nz] at h
 exact h
theorem mq (s : ByteArray) : ∀ x ∈ cZ.v s, W64 x := by
 rw [jc]
 intro x hx
 obtain ⟨i, _, rfl⟩ := List.mem_map.mp hx
 exact qL s i
theorem kb (s : ByteArray) : (cZ.v s).length = 25 := eA s 200
theorem lS (a : List Int) (ha : ∀ x ∈ a, W64 x) : ∀ x ∈ cC.v a, W64 x := oX a ha 24
theorem oB (s : ByteArray) (hs : s.size = 200) : Ev (fun k => cT.f k s) (eO s) := by
 unfold cT.f
 refine Ev.pos (by omega) ?_
 have h := ng s 25 (by omega) (by decide)
 rw [← jc] at h
 exact Ev.bind h (Ev.bind (oW _ (kb s) (mq s)) (Ev.bind (oS _ (lS _ (mq s)) (gb _ 24 (kb s))) (Ev.now _)))
def B8 (x : Int) : Prop := 0 ≤ x ∧ x ≤ 255
theorem B8.xor (a b : Int) : B8 (Go.bits .xor .u8 a b) := by
 show B8 (IntKind.u8.wrap (((BitVec.ofInt 8 a ^^^ BitVec.ofInt 8 b).toNat : Nat) : Int))
 rw [IntKind.wrap_u8]; unfold B8; omega
theorem sM (a b : Nat) (ha : a < 256) (hb : b < 256) : Go.bits .xor .u8 (a : Int) (b : Int) = ((a ^^^ b : Nat) : Int) := by
 show IntKind.u8.wrap (((BitVec.ofInt 8 (a : Int) ^^^ BitVec.ofInt 8 (b : Int)).toNat : Nat) : Int) = _
 have e1 : (BitVec.ofInt 8 (a : Int) ^^^ BitVec.ofInt 8 (b : Int)).toNat = a ^^^ b := by
  rw [BitVec.toNat_xor, BitVec.toNat_ofInt, BitVec.toNat_ofInt]
  congr 1 <;> omega
 rw [e1]
 have : a ^^^ b < 2 ^ 8 := Nat.xor_lt_two_pow ha hb
 rw [IntKind.wrap_u8]
 omega
/-- Numbers of two parts, turned part by part. -/
theorem pG (k a b c d : Nat) (ha : a < 2 ^ k) (hc : c < 2 ^ k) : (a + b * 2 ^ k) ^^^ (c + d * 2 ^ k) = (a ^^^ c) + (b ^^^ d) * 2 ^ k := by
 have hp : 0 < 2 ^ k := Nat.pow_pos (by decide)
 have e1 : (a + b * 2 ^ k) % 2 ^ k = a := by rw [Nat.add_mul_mod_self_right, Nat.mod_eq_of_lt ha]
 have e2 : (c + d * 2 ^ k) % 2 ^ k = c := by rw [Nat.add_mul_mod_self_right, Nat.mod_eq_of_lt hc]
 have e3 : (a + b * 2 ^ k) / 2 ^ k = b := by rw [Nat.add_mul_div_right _ _ hp, Nat.div_eq_of_lt ha, Nat.zero_add]
 have e4 : (c + d * 2 ^ k) / 2 ^ k = d := by rw [Nat.add_mul_div_right _ _ hp, Nat.div_eq_of_lt hc, Nat.zero_add]
 have h := Nat.mod_add_div ((a + b * 2 ^ k) ^^^ (c + d * 2 ^ k)) (2 ^ k)
 rw [Nat.xor_mod_two_pow, Nat.xor_div_two_pow, e1, e2, e3, e4, Nat.mul_comm (2 ^ k)] at h
 exact h.symm
theorem pL (f g : Nat → Int) (hf : ∀ q, 0 ≤ f q ∧ f q ≤ 255) (hg : ∀ q, 0 ≤ g q ∧ g q ≤ 255) : ∀ n, n ≤ 8 → pb (fun q => Go.bits .xor .u8 (f q) (g q)) n = Go.bits .xor .u64 (pb f n) (pb g n)
 | 0, _ => by
  simp only [pb]
  exact (np 0 ⟨by decide, by decide⟩).symm
 | n + 1, h => by
  have ih := pL f g hf hg n (by omega)
  have a1 := kg f hf n
  have a2 := kg g hg n
  have b1 := kg f hf (n + 1)
  have b2 := kg g hg (n + 1)
  have c1 := hf n
  have c2 := hg n
  have hB : 2 ^ (8 * (n + 1)) ≤ 2 ^ 64 := Nat.pow_le_pow_right (by decide) (by omega)
  have hC : 2 ^ (8 * n) ≤ 2 ^ 64 := Nat.pow_le_pow_right (by decide) (by omega)
  simp only [pb] at b1 b2 ⊢
  rw [ih]
  clear ih
  obtain ⟨a, ea⟩ := Int.eq_ofNat_of_zero_le a1.1
  obtain ⟨c, ec⟩ := Int.eq_ofNat_of_zero_le a2.1
  obtain ⟨b, eb⟩ := Int.eq_ofNat_of_zero_le c1.1
  obtain ⟨d, ed⟩ := Int.eq_ofNat_of_zero_le c2.1
  rw [ea, eb] at b1 ⊢
  rw [ec, ed] at b2 ⊢
  rw [ea] at a1
  rw [ec] at a2
  rw [eb] at c1
  rw [ed] at c2
  rw [p4 a c (by omega) (by omega), sM b d (by omega) (by omega), ← Int.natCast_mul, ← Int.natCast_mul, ← Int.natCast_mul, ← Int.natCast_add, ← Int.natCast_add, ← Int.natCast_add, p4 _ _ ?_ ?_]
  ·rw [pG (8 * n) a b c d (by omega) (by omega)]
  ·have := b1.2
   rw [← Int.natCast_mul, ← Int.natCast_add] at this
   omega
  ·have := b2.2
   rw [← Int.natCast_mul, ← Int.natCast_add] at this
   omega
theorem jt {f g : Nat → Int} : ∀ n, (∀ q, q < n → f q = g q) → pb f n = pb g n
 | 0, _ => rfl
 | n + 1, h => by
  simp only [pb]
  rw [jt n (fun q hq => h q (by omega)), h n (by omega)]
theorem mf (x : Nat) : ∀ n, pb (fun q => (x : Int) / 2 ^ (8 * q) % 256) n = ((x % 2 ^ (8 * n) : Nat) : Int)
 | 0 => by simp [pb, Nat.mod_one]
 | n + 1 => by
  simp only [pb]
  rw [mf x n, show (2 : Int) ^ (8 * n) = ((2 ^ (8 * n) : Nat) : Int) by rw [Int.natCast_pow]; rfl, ← Int.natCast_ediv, Nat.mul_add, Nat.pow_add, show 2 ^ (8 * 1) = 256 from rfl, Nat.mod_mul]
  rw [Nat.mul_comm (2 ^ (8 * n)) (x / 2 ^ (8 * n) % 256), Int.natCast_add, Int.natCast_mul]
  rfl
/-- A lane, of its own bytes. -/
theorem nB (W : List Int) (i : Nat) (h : W64 (rd W (i : Int))) : pb (fun q => fh W (8 * i + q)) 8 = rd W (i : Int) := by
 obtain ⟨x, hx⟩ := Int.eq_ofNat_of_zero_le h.1
 have h2 := h.2
 rw [hx] at h2
 rw [jt (g := fun q => (x : Int) / 2 ^ (8 * q) % 256) 8 ?_, mf, hx, Nat.mod_eq_of_lt (by omega)]
 intro q hq
 unfold fh
 rw [show (8 * i + q) / 8 = i by omega, show (8 * i + q) % 8 = q by omega, hx]
theorem nE (W : List Int) (m : Nat) : B8 (fh W m) := by unfold fh B8; omega
theorem qq (L : List Int) (hL : ∀ x ∈ L, B8 x) (j : Nat) (hj : j < L.length) : bt (strOfNums L) (j : Int) = rd L (j : Int) := by
 have h := lc hL j hj
 rw [dg L j hj] at h ⊢
 have hs : j < (strOfNums L).size := by rw [strOfNums_size]; exact hj
 rw [← cP (strOfNums L) (j : Int) (by simpa using hs)]
 simp only [Int.toNat_natCast]
 rw [i9 L j hs, UInt8.toNat_ofNat']
 unfold B8 at h
 omega
theorem pM (L : List Int) (hL : ∀ x ∈ L, B8 x) : bl (strOfNums L) = L := by
 apply ie (by rw [dE, strOfNums_size])
 intro i hi
 rw [dE, strOfNums_size] at hi
 rw [← qq L hL i hi, dg _ i (by rw [dE, strOfNums_size]; exact hi)]
 have hs : i < (strOfNums L).size := by rw [strOfNums_size]; exact hi
 rw [← cP (strOfNums L) (i : Int) (by simpa using hs)]
 simp [bl]
 rfl
theorem nS (W : List Int) : ∀ x ∈ fG W 200, B8 x := by
 rw [nz]
 intro x hx
 obtain ⟨m, _, rfl⟩ := List.mem_map.mp hx
 exact nE W m
theorem kN (st T : List Int) (o i : Nat) : ∀ n, n ≤ st.length → rd (gM st T o n) (i : Int) = if i < n then Go.bits .xor .u8 (rd st (i : Int)) (rd T ((o + i : Nat) : Int)) else rd st (i : Int)
 | 0, _ => by rw [Ea (by omega)]; rfl
 | n + 1, h => by
  simp only [gM]
  rw [fK _ _ _ _ (by rw [jr]; omega), kN st T o i n (by omega)]
  by_cases e : i = n
  ·subst e
   rw [Da rfl, Da (by omega), kN st T o i i (by omega), Ea (by omega)]
  ·rw [Ea e]
   by_cases e2 : i < n
   ·rw [Da e2, Da (by omega)]
   ·rw [Ea e2, Ea (by omega)]
theorem mG (st ls : List Int) (i : Nat) : ∀ n, n ≤ st.length → rd (gL st ls n) (i : Int) = if i < n then Go.bits .xor .u64 (rd st (i : Int)) (rd ls (i : Int)) else rd st (i : Int)
 | 0, _ => by rw [Ea (by omega)]; rfl
 | n + 1, h => by
  simp only [gL]
  rw [fK _ _ _ _ (by rw [ig]; omega), mG st ls i n (by omega)]
  by_cases e : i = n
  ·subst e
   rw [Da rfl, Da (by omega), mG st ls i i (by omega), Ea (by omega)]
  ·rw [Ea e]
   by_cases e2 : i < n
   ·rw [Da e2, Da (by omega)]
   ·rw [Ea e2, Ea (by omega)]
theorem mH (T : List Int) (o n i : Nat) (hi : i < n) (h : o + n ≤ T.length) : rd ((T.drop o).take n) (i : Int) = rd T ((o + i : Nat) : Int) := by
 rw [dg _ i (by simp; omega), dg _ (o + i) (by omega)]
 simp
theorem qD (T : List Int) (hT : ∀ x ∈ T, B8 x) (n : Nat) : ∀ x ∈ (T.drop (168 * n)).take 168, B8 x := fun x hx => hT x (List.mem_of_mem_drop (List.mem_of_mem_take hx))
/-- A state turned by a block: byte by byte or lane by lane. -/
theorem nI (W T : List Int) (m : Nat) (hl : W.length = 25) (hw : ∀ x ∈ W, W64 x) (hT : ∀ x ∈ T, B8 x) (hm : 168 * m + 168 ≤ T.length) :
  cZ.v (strOfNums (gM (fG W 200) T (168 * m) 168)) = gL W ((List.range 21).map (fW (eL T m))) 21 := by
 have hY : ∀ x ∈ gM (fG W 200) T (168 * m) 168, B8 x := by
  refine mT fun i hi => ?_
  rw [jr, dj] at hi
  rw [kN _ _ _ _ 168 (by rw [dj]; decide)]
  split
  ·exact B8.xor _ _
  ·exact lc (nS W) i (by rw [dj]; exact hi)
 have hYl : (gM (fG W 200) T (168 * m) 168).length = 200 := by rw [jr, dj]
 have hbyte : ∀ j : Nat, j < 200 → bt (strOfNums (gM (fG W 200) T (168 * m) 168)) (j : Int) = if j < 168 then Go.bits .xor .u8 (fh W j) (rd T ((168 * m + j : Nat) : Int)) else fh W j := by
  intro j hj
  rw [qq _ hY j (by rw [hYl]; exact hj), kN _ _ _ _ 168 (by rw [dj]; decide), jn W j 200 (Aa _), Da hj]
 have hblk : ∀ j : Nat, j < 168 → bt (eL T m) (j : Int) = rd T ((168 * m + j : Nat) : Int) := by
  intro j hj
  unfold eL
  rw [qq _ (qD T hT m) j (by simp; omega), mH T _ 168 j hj (by omega)]
 rw [jc]
 apply ie (by rw [ig, hl]; rfl)
 intro i hi
 have hi : i < 25 := by simpa using hi
 rw [mG _ _ _ 21 (by rw [hl]; decide), dg ((List.range 25).map _) i (by simpa using hi), List.getElem_map, List.getElem_range]
 have hwi := lc hw i (by rw [hl]; exact hi)
 by_cases h : i < 21
 ·rw [Da h, dg ((List.range 21).map (fW (eL T m))) i (by simpa using h), List.getElem_map, List.getElem_range]
  unfold fW
  rw [jt (g := fun q => Go.bits .xor .u8 (fh W (8 * i + q)) (lb (eL T m) i q)) 8 ?_, pL (fun q => fh W (8 * i + q)) (lb (eL T m) i) (fun q => nE W _) (fun q => iD _ _) 8 (Aa _), nB W i hwi]
  intro q hq
  unfold lb
  rw [hbyte _ (by omega), Da (by omega), hblk _ (by omega)]
 ·unfold fW
  rw [Ea h, jt (g := fun q => fh W (8 * i + q)) 8 ?_, nB W i hwi]
  intro q hq
  unfold lb
  rw [hbyte _ (by omega), Ea (by omega)]
/-- The lanes behind m blocks. -/
def stW (T : List Int) : Nat → List Int
 | 0 => List.replicate 25 0
 | m + 1 => cC.v (gL (stW T m) ((List.range 21).map (fW (eL T m))) 21)
theorem ov (st ls : List Int) (h : ∀ x ∈ st, W64 x) : ∀ n, ∀ x ∈ gL st ls n, W64 x
 | 0 => h
 | n + 1 => by
  intro x hx
  simp only [gL] at hx
  rcases List.mem_or_eq_of_mem_set hx with h2 | h2
  ·exact ov st ls h n x h2
  ·rw [h2]; exact W64.xor _ _
theorem jf (T : List Int) : ∀ m, (stW T m).length = 25 ∧ ∀ x ∈ stW T m, W64 x
 | 0 => ⟨by simp [stW], by
  intro x hx
  simp only [stW] at hx
  rw [List.eq_of_mem_replicate hx]
  exact ⟨by decide, by decide⟩⟩
 | m + 1 => by
  have ih := jf T m
  have h1 : (gL (stW T m) ((List.range 21).map (fW (eL T m))) 21).length = 25 := by rw [ig]; exact ih.1
  have h2 := ov (stW T m) ((List.range 21).map (fW (eL T m))) ih.2 21
  simp only [stW]
  generalize gL (stW T m) ((List.range 21).map (fW (eL T m))) 21 = a at h1 h2 ⊢
  exact ⟨gb a 24 h1, lS a h2⟩
theorem o8 (T : List Int) (hT : ∀ x ∈ T, B8 x) : ∀ m, 168 * m ≤ T.length → go T m = fG (stW T m) 200
 | 0, _ => by
  simp only [go, stW]
  apply ie (by rw [dj, List.length_replicate])
  intro i hi
  rw [List.length_replicate] at hi
  rw [gi, jn _ i 200 (Aa _), Da hi]
  unfold fh
  rw [gi]
  simp
 | m + 1, h => by
  simp only [go, eO]
  rw [o8 T hT m (by omega), nI _ T m (jf T m).1 (jf T m).2 hT (by omega)]
  unfold fw.v
  rw [pM _ (nS _)]
  rfl
theorem o2 (T : List Int) (hT : ∀ x ∈ T, B8 x) : ∀ m, 168 * m ≤ T.length → Ev (fun k => kJ k T m) (stW T m)
 | 0, _ => Ev.now _
 | m + 1, h => by
  have hs : (eL T m).size = 8 * 21 := by
   unfold eL
   rw [strOfNums_size]
   simp
   omega
  have h1 := jf T m
  have h2 := jf T (m + 1)
  have hl : ((List.range 21).map (fW (eL T m))).length = 21 := by simp
  refine Ev.bind (o2 T hT m (by omega)) (Ev.bind (ng (eL T m) 21 hs (by decide)) (Ev.pos ?_ ?_))
  ·rw [hl, h1.1]; decide
  ·rw [hl]
   have h3 := oW (gL (stW T m) ((List.range 21).map (fW (eL T m))) 21) (by rw [ig]; exact h1.1) (ov _ _ h1.2 21)
   simp only [stW] at h2 ⊢
   refine Ev.bind h3 (Ev.pos ?_ (Ev.now _))
   rw [h2.1]; decide
theorem re (s : ByteArray) (c : Int) (hc : B8 c) : ∀ x ∈ gI s c, B8 x := by
 intro x hx
 unfold gI pk at hx
 rcases List.mem_or_eq_of_mem_set hx with h | h
 ·unfold fg at h
  rw [List.mem_append, List.mem_append] at h
  rcases h with (h | h) | h
  ·unfold bl at h
   obtain ⟨b, _, rfl⟩ := List.mem_map.mp h
   have := b.toNat_lt
   exact ⟨by omega, by omega⟩
  ·rw [List.mem_singleton] at h; rw [h]; exact hc
  ·rw [List.eq_of_mem_replicate h]; exact ⟨by decide, by decide⟩
 ·rw [h]; exact B8.xor _ _
/-- The state that a text leaves. -/
def lx (s : ByteArray) : ByteArray := strOfNums (go (gI s 31) ((gI s 31).length / 168))
theorem gK (s : ByteArray) : (lx s).size = 200 := by unfold lx; rw [strOfNums_size, gS]
theorem kX (s : ByteArray) (hs : s.size ≤ 1000000000000) : Ev (fun k => cJ.f k s 168 31) (lx s) := by
 have hT := re s 31 ⟨by decide, by decide⟩
 have hm : 168 * ((gI s 31).length / 168) ≤ (gI s 31).length := Nat.mul_div_le _ _
 unfold cJ.f
 refine Ev.pos ⟨rfl, hs⟩ (Ev.bind (o2 _ hT _ hm) ?_)
 unfold lx
 rw [o8 _ hT _ hm]
 exact oS _ (jf _ _).2 (jf _ _).1
theorem ld (s : ByteArray) (hs : s.size ≤ 1000000000000) : Ev (fun k => cX.f k s 168 31) (lx s) := by
 unfold cX.f
 exact Ev.pos ⟨rfl, hs⟩ (Ev.now _)
theorem iL (s : ByteArray) : (⟨#[]⟩ : ByteArray) ++ s = s := by
 apply fA
 simp [ByteArray.data_append]
theorem gR (s : ByteArray) (a n : Nat) (h : a + n ≤ s.size) : (s.extract a (a + n)).size = n := by
 rw [ByteArray.size_extract]; omega
theorem jp (s : ByteArray) (a n : Nat) (hs : s.size = 200) (hn : 0 < n) (h : a + n ≤ 168) : Ev (fun k => aA.f k s (a : Int) (n : Int)) (s, ((a + n : Nat) : Int), s.extract a (a + n)) := by
 unfold aA.f
 refine Ev.pos ⟨by omega, by omega, hs, by omega, by omega⟩ ?_
 rw [Int.toNat_natCast, Int.toNat_natCast]
 have hx := gR s a n (by omega)
 refine Ev.step (f := fun k => aA.l0 k n (s.extract a (a + n)) s (a + n)) (fun k => ?_) ?_
 ·simp only [aA.l0]
  have e0 : (⟨#[]⟩ : ByteArray).size = 0 := rfl
  rw [Da (by rw [e0]; exact hn), Ea (by omega), Da ⟨by omega, hs⟩, e0, Nat.sub_zero, Nat.min_eq_right (by omega), iL]
 ·refine Ev.step (f := fun _ => some (s, ((a + n : Nat) : Int), s.extract a (a + n))) (fun k => ?_) (Ev.now _)
  simp only [aA.l0]
  rw [Ea (by omega)]
theorem l9 (s : ByteArray) (n : Nat) (hs : s.size = 200) (hn : 0 < n) (h : n ≤ 168) : Ev (fun k => aA.f k s 168 (n : Int)) (eO s, (n : Int), (eO s).extract 0 n) := by
 unfold aA.f
 refine Ev.pos ⟨by omega, by omega, hs, by omega, by omega⟩ ?_
 rw [Int.toNat_natCast]
 have hp := gc s
 have hx := gR (eO s) 0 n (by omega)
 rw [Nat.zero_add] at hx
 refine Ev.step (f := fun k => (cT.f k s).bind fun t => if t.size = 200 then aA.l0 k n (t.extract 0 n) t n else none) (fun k => ?_) (Ev.bind (oB s hs) (Ev.pos hp ?_))
 ·simp only [aA.l0]
  have e0 : (⟨#[]⟩ : ByteArray).size = 0 := rfl
  rw [Da (by rw [e0]; exact hn), Da (by decide), e0, Nat.sub_zero, Nat.min_eq_right (by omega)]
  simp only [iL]
 ·refine Ev.step (f := fun _ => some (eO s, (n : Int), (eO s).extract 0 n)) (fun k => ?_) (Ev.now _)
  simp only [aA.l0]
  rw [Ea (by omega)]
theorem iB (s : ByteArray) (a n : Nat) (r : ByteArray × Int × ByteArray) (hs : s.size = 200) (hn : n ≤ 168) (ha : a ≤ 168) (h : Ev (fun k => ap.l0 k (n : Int) (⟨#[]⟩ : ByteArray) s (a : Int)) r) : Ev (fun k => ap.f k s (a : Int) (n : Int)) r := by
 unfold ap.f
 have e1 : bV.f (n : Int) 0 4000 = some true := (kS _ _ _).trans (by rw [wa]; omega)
 have e2 : bV.f (a : Int) 0 168 = some true := (kS _ _ _).trans (by rw [wa]; omega)
 refine Ev.then e1 (Ev.pos rfl (Ev.pos (by omega) (Ev.then e2 ?_)))
 refine Ev.step (fun k => ?_) h
 simp only [ap.j0]
 rw [Ea (by decide)]
theorem gX (s : ByteArray) (a n : Nat) (hs : s.size = 200) (hn : 0 < n) (h : a + n ≤ 168) : Ev (fun k => ap.f k s (a : Int) (n : Int)) (s, ((a + n : Nat) : Int), s.extract a (a + n)) := by
 refine iB s a n _ hs (by omega) (by omega) ?_
 have hx := gR s a n (by omega)
 have e0 : (⟨#[]⟩ : ByteArray).size = 0 := rfl
 have e1 : wrap64 ((n : Int) - ((⟨#[]⟩ : ByteArray).size : Int)) = (n : Int) := by rw [e0, w64 (by omega) (by omega)]; omega
 have e2 : wrap64 (168 - (a : Int)) = ((168 - a : Nat) : Int) := by rw [w64 (by omega) (by omega)]; omega
 have e3 : mn (n : Int) ((168 - a : Nat) : Int) = (n : Int) := by unfold mn; rw [Ea (by omega)]
 have e4 : wrap64 ((a : Int) + (n : Int)) = ((a + n : Nat) : Int) := by rw [w64 (by omega) (by omega)]; omega
 refine Ev.step (f := fun k => ap.l0 k (n : Int) (s.extract a (a + n)) s ((a + n : Nat) : Int)) (fun k => ?_) ?_
 ·simp only [ap.l0, e1, e2, e3, e4]
  rw [Da (by rw [e0]; omega), Ea (by omega), Da (by omega), Da (by omega), Da (by omega), Int.toNat_natCast, Int.toNat_natCast, Da (by rw [e0, hx]; omega), iL]
 ·refine Ev.step (f := fun _ => some (s, ((a + n : Nat) : Int), s.extract a (a + n))) (fun k => ?_) (Ev.now _)
  simp only [ap.l0]
  rw [Ea (by omega)]
theorem lW (s : ByteArray) (n : Nat) (hs : s.size = 200) (hn : 0 < n) (h : n ≤ 168) : Ev (fun k => ap.f k s 168 (n : Int)) (eO s, (n : Int), (eO s).extract 0 n) := by
 refine iB s 168 n _ hs (by omega) (by omega) ?_
 have hp := gc s
 have hx := gR (eO s) 0 n (by omega)
 rw [Nat.zero_add] at hx
 have e0 : (⟨#[]⟩ : ByteArray).size = 0 := rfl
 have e1 : wrap64 ((n : Int) - ((⟨#[]⟩ : ByteArray).size : Int)) = (n : Int) := by rw [e0, w64 (by omega) (by omega)]; omega
 have e3 : mn (n : Int) 168 = (n : Int) := by unfold mn; rw [Ea (by omega)]
 have e4 : wrap64 (0 + (n : Int)) = (n : Int) := by rw [w64 (by omega) (by omega)]; omega
 refine Ev.step (f := fun k => ap.l0 k (n : Int) ((eO s).extract 0 n) (eO s) (n : Int)) (fun k => ?_) ?_
 ·simp only [ap.l0, e1, e3, e4, pj s hs, Option.bind_some]
  rw [Da (by rw [e0]; omega), Da (by rfl), Da (by omega), Da (by omega), Int.toNat_natCast, Da (by rw [e0, hx]; omega), iL]
 ·refine Ev.step (f := fun _ => some (eO s, (n : Int), (eO s).extract 0 n)) (fun k => ?_) (Ev.now _)
  simp only [ap.l0]
  rw [Ea (by omega)]
theorem j5 (s : ByteArray) (hs : s.size ≤ 1000000000000) : Ev (fun k => bZ.f k s) (lx s, 0) := by
 unfold bZ.f
 exact Ev.bind (kX s hs) (Ev.now _)
theorem j6 (s : ByteArray) (hs : s.size ≤ 1000000000000) : Ev (fun k => b7.f k s) (lx s, 0) := by
 unfold b7.f
 exact Ev.bind (ld s hs) (Ev.now _)
/-- The first n bytes that a text gives. -/
def k8 (s : ByteArray) (n : Nat) : ByteArray := (lx s).extract 0 n
theorem lU (s : ByteArray) (hs : s.size ≤ 1000000000000) : Ev (fun k => cR.f k s 128) (k8 s 128, true) := by
 unfold cR.f
 have h := jp (lx s) 0 128 (gK s) (by decide) (by decide)
 have e1 : aY.f 128 0 4000 = some true := by rfl
 exact Ev.then e1 (Ev.pos rfl (Ev.bind (j5 s hs) (Ev.bind h (Ev.now _))))
theorem l8 (s : ByteArray) (hs : s.size ≤ 1000000000000) : Ev (fun k => cS.f k s 128) (k8 s 128, true) := by
 unfold cS.f
 have h := gX (lx s) 0 128 (gK s) (by decide) (by decide)
 have e1 : bV.f 128 0 4000 = some true := by rfl
 exact Ev.then e1 (Ev.pos rfl (Ev.bind (j6 s hs) (Ev.bind h (Ev.now _))))
def jy (n : Int) : ByteArray := strOfNums [n % 256]
theorem f9 (n : Int) : (jy n).size = 1 := by simp [jy, strOfNums_size]
theorem jG (n : Int) : cO.f n = some (jy n) := rfl
theorem jH (n : Int) : cH.f n = some (jy n) := by
 have h := Int.mul_tdiv_add_tmod n 256
 have h1 := Int.tmod_lt_of_pos n (show (0 : Int) < 256 by decide)
 have h2 := Int.lt_tmod_of_pos n (show (0 : Int) < 256 by decide)
 have h3 : (Int.tmod n 256) % 256 = n % 256 := by omega
 unfold cH.f jy
 split
 ·rw [w64 (by omega) (by omega), show (Int.tmod n 256 + 256) % 256 = n % 256 by omega]
 ·rw [h3]
/-- A coefficient of four bits. -/
def cb (v : Int) : Int := (v % 2 + v / 2 % 2 - v / 4 % 2 - v / 8 % 2 + 3329) % 3329
theorem se (b : Int) (h0 : 0 ≤ b) (h1 : b ≤ 255) : Int.tmod (wrap64 ((wrap64 ((wrap64 ((wrap64 ((Int.tmod (wrap64 (Int.tdiv (wrap64 b) 16)) 2) + (Int.tmod (wrap64 (Int.tdiv (wrap64 (Int.tdiv (wrap64 b) 16)) 2)) 2))) - (Int.tmod (wrap64 (Int.tdiv (wrap64 (Int.tdiv (wrap64 b) 16)) 4)) 2))) - (Int.tmod (wrap64 (Int.tdiv (wrap64 (Int.tdiv (wrap64 b) 16)) 8)) 2))) + 3329)) 3329 = cb (b / 16) := by
 have h : ((List.range 256).all fun n : Nat => decide (Int.tmod (wrap64 ((wrap64 ((wrap64 ((wrap64 ((Int.tmod (wrap64 (Int.tdiv (wrap64 (n : Int)) 16)) 2) + (Int.tmod (wrap64 (Int.tdiv (wrap64 (Int.tdiv (wrap64 (n : Int)) 16)) 2)) 2))) - (Int.tmod (wrap64 (Int.tdiv (wrap64 (Int.tdiv (wrap64 (n : Int)) 16)) 4)) 2))) - (Int.tmod (wrap64 (Int.tdiv (wrap64 (Int.tdiv (wrap64 (n : Int)) 16)) 8)) 2))) + 3329)) 3329 = cb ((n : Int) / 16))) = true := by kernel_rfl
 obtain ⟨n, rfl⟩ := Int.eq_ofNat_of_zero_le h0
 exact of_decide_eq_true (List.all_eq_true.mp h n (List.mem_range.mpr (by omega)))
theorem sf (b : Int) (h0 : 0 ≤ b) (h1 : b ≤ 255) : Int.tmod (wrap64 ((wrap64 ((wrap64 ((wrap64 ((Int.tmod (wrap64 b) 2) + (Int.tmod (wrap64 (Int.tdiv (wrap64 b) 2)) 2))) - (Int.tmod (wrap64 (Int.tdiv (wrap64 b) 4)) 2))) - (Int.tmod (wrap64 (Int.tdiv (wrap64 b) 8)) 2))) + 3329)) 3329 = cb b := by
 have h : ((List.range 256).all fun n : Nat => decide (Int.tmod (wrap64 ((wrap64 ((wrap64 ((wrap64 ((Int.tmod (wrap64 (n : Int)) 2) + (Int.tmod (wrap64 (Int.tdiv (wrap64 (n : Int)) 2)) 2))) - (Int.tmod (wrap64 (Int.tdiv (wrap64 (n : Int)) 4)) 2))) - (Int.tmod (wrap64 (Int.tdiv (wrap64 (n : Int)) 8)) 2))) + 3329)) 3329 = cb (n : Int))) = true := by kernel_rfl
 obtain ⟨n, rfl⟩ := Int.eq_ofNat_of_zero_le h0
 exact of_decide_eq_true (List.all_eq_true.mp h n (List.mem_range.mpr (by omega)))
theorem rl (b : Int) (m : Nat) (h0 : 0 ≤ b) (h1 : b ≤ 255) (hm : m < 2) : bW.f (wrap64 ((wrap64 ((wrap64 ((Go.bits .and .i64 (wrap64 (shr .u8 b (wrap64 (4 * (m : Int))))) 1) + (Go.bits .and .i64 ((wrap64 (shr .u8 b (wrap64 (4 * (m : Int))))) / 2) 1))) - (Go.bits .and .i64 ((wrap64 (shr .u8 b (wrap64 (4 * (m : Int))))) / 4) 1))) - (Go.bits .and .i64 ((wrap64 (shr .u8 b (wrap64 (4 * (m : Int))))) / 8) 1))) = some (cb (if m = 1 then b / 16 else b)) := by
 have h : ((List.range 256).all fun n : Nat => (List.range 2).all fun m : Nat => decide (bW.f (wrap64 ((wrap64 ((wrap64 ((Go.bits .and .i64 (wrap64 (shr .u8 (n : Int) (wrap64 (4 * (m : Int))))) 1) + (Go.bits .and .i64 ((wrap64 (shr .u8 (n : Int) (wrap64 (4 * (m : Int))))) / 2) 1))) - (Go.bits .and .i64 ((wrap64 (shr .u8 (n : Int) (wrap64 (4 * (m : Int))))) / 4) 1))) - (Go.bits .and .i64 ((wrap64 (shr .u8 (n : Int) (wrap64 (4 * (m : Int))))) / 8) 1))) = some (cb (if m = 1 then (n : Int) / 16 else (n : Int))))) = true := by kernel_rfl
 obtain ⟨n, rfl⟩ := Int.eq_ofNat_of_zero_le h0
 exact of_decide_eq_true (List.all_eq_true.mp (List.all_eq_true.mp h n (List.mem_range.mpr (by omega))) m (List.mem_range.mpr hm))
/-- The coefficient i of the bytes t. -/
def rq (t : ByteArray) (i : Nat) : Int := cb (if i % 2 = 1 then bt t ((i / 2 : Nat) : Int) / 16 else bt t ((i / 2 : Nat) : Int))
def d7 (t : ByteArray) : List Int := (List.range 256).map (rq t)
theorem je (t : ByteArray) : (d7 t).length = 256 := by unfold d7; simp
theorem lu (t : ByteArray) (i : Nat) (h : i < (d7 t).length) : (d7 t)[i] = rq t i := by
 simp only [d7, List.getElem_map, List.getElem_range]
theorem kH (t : ByteArray) (ht : t.size = 128) : Ev (fun k => bE.l0 k ([] : List Int) t 0) (d7 t) := by
 have hl := je t
 refine Ev.up (g := fun i k => bE.l0 k ((d7 t).take i) t (i : Int)) 256 ?_ ?_ 0 (Nat.zero_le _)
 ·intro i hi hh
  have hv := lu t i (by omega)
  rw [← fU (d7 t) i (by omega), hv] at hh
  refine Ev.step (fun k => ?_) hh
  have e1 : wrap64 (Int.tdiv (i : Int) 2) = ((i / 2 : Nat) : Int) := by rw [Int.tdiv_eq_ediv_of_nonneg (by omega), w64 (by omega) (by omega)]; omega
  have hb := dC t ((i / 2 : Nat) : Int)
  have hlen : ((d7 t).take i).length = i := by rw [List.length_take, hl]; omega
  have e2 : Int.tmod (i : Int) 2 = ((i % 2 : Nat) : Int) := by rw [Int.tmod_eq_emod_of_nonneg (by omega)]; omega
  unfold rq
  simp only [bE.l0, e1, e2]
  rw [Da (by omega), Da (by omega), Da (by omega)]
  by_cases hp : i % 2 = 1
  ·rw [Da (by omega), Da hp, Da (by omega), se _ (by omega) (by omega), dv i (by omega)]
  ·rw [Ea (by omega), Ea hp, Da (by omega), sf _ (by omega) (by omega), dv i (by omega)]
 ·refine Ev.step (f := fun _ => some (d7 t)) (fun k => ?_) (Ev.now _)
  simp only [bE.l0]
  rw [Ea (by omega), List.take_of_length_le (by omega)]
theorem kw (t : ByteArray) (ht : t.size = 128) : Ev (fun k => bJ.l0 k t (List.replicate 256 0) 256 0) (d7 t) := by
 have hl := je t
 have e0 : (d7 t).take 0 ++ List.replicate ((d7 t).length - 0) 0 = List.replicate 256 0 := by rw [hl, List.take_zero, List.nil_append, Nat.sub_zero]
 rw [← e0]
 refine Ev.up (g := fun i k => bJ.l0 k t ((d7 t).take i ++ List.replicate ((d7 t).length - i) 0) 256 (i : Int)) 256 ?_ ?_ 0 (Nat.zero_le _)
 ·intro i hi hh
  have hv := lu t i (by omega)
  rw [← nk (d7 t) 0 i (by omega), hv] at hh
  refine Ev.step (fun k => ?_) hh
  have e1 : wrap64 (Int.tdiv (i : Int) 2) = ((i / 2 : Nat) : Int) := by rw [Int.tdiv_eq_ediv_of_nonneg (by omega), w64 (by omega) (by omega)]; omega
  have hb := dC t ((i / 2 : Nat) : Int)
  have hlen : ((d7 t).take i ++ List.replicate ((d7 t).length - i) 0).length = 256 := by rw [List.length_append, List.length_take, List.length_replicate, hl]; omega
  have e2 : Int.tmod (i : Int) 2 = ((i % 2 : Nat) : Int) := by rw [Int.tmod_eq_emod_of_nonneg (by omega)]; omega
  have e3 := rl (bt t ((i / 2 : Nat) : Int)) (i % 2) (by omega) (by omega) (by omega)
  have c1 : (i : Int) < 256 := by omega
  have c2 : (0 : Int) ≤ ((i / 2 : Nat) : Int) := by omega
  have c3 : ((i / 2 : Nat) : Int) < (t.size : Int) := by omega
  have c4 : 0 ≤ wrap64 (4 * ((i % 2 : Nat) : Int)) := by rw [w64 (by omega) (by omega)]; omega
  have c5 : (0 : Int) ≤ (i : Int) := by omega
  have c6 : (i : Int) < (((d7 t).take i ++ List.replicate ((d7 t).length - i) 0).length : Int) := by rw [hlen]; omega
  have c7 := dv i (by omega)
  unfold rq
  simp only [bJ.l0, e1, e2]
  rw [Da c1, Da c2, Da c3, Da c4, e3, Option.bind_some, Da c5, Da c6, c7, Int.toNat_natCast]
 ·refine Ev.step (f := fun _ => some (d7 t)) (fun k => ?_) (Ev.now _)
  simp only [bJ.l0]
  rw [Ea (by omega), List.take_of_length_le (by omega), hl, Nat.sub_self, List.replicate_zero, List.append_nil]
def fq (s : ByteArray) (n : Int) : List Int := d7 (k8 (s ++ jy n) 128)
theorem oH (s : ByteArray) (n : Int) : (fq s n).length = 256 := je _
theorem lp (s : ByteArray) : (k8 s 128).size = 128 := by
 unfold k8
 rw [ByteArray.size_extract, gK]
 omega
theorem fj (s : ByteArray) (n : Int) (hs : s.size ≤ 1048576) : Ev (fun k => bE.f k s n) (fq s n) := by
 unfold bE.f
 have h1 := f9 n
 exact Ev.then (jH n) (Ev.pos (by omega) (Ev.bind (lU _ (by rw [ByteArray.size_append]; omega)) (kH _ (lp _))))
theorem iZ (s : ByteArray) (n : Int) (hs : s.size ≤ 1048576) : Ev (fun k => bJ.f k s n) (fq s n) := by
 unfold bJ.f
 have h1 := f9 n
 refine Ev.then (jG n) (Ev.pos (by omega) (Ev.bind (l8 _ (by rw [ByteArray.size_append]; omega)) (Ev.pos (by decide) (Ev.then (a := List.replicate 256 0) rfl ?_))))
 rw [List.length_replicate]
 exact kw _ (lp _)
/-- A number taken in, where it is small enough and there is room. -/
def put (l : List Int) (v : Int) : List Int := if v < 3329 ∧ l.length < 256 then l ++ [v] else l
theorem na (l : List Int) (v : Int) (h : l.length ≤ 256) : (put l v).length ≤ 256 := by
 unfold put
 split
 ·rw [List.length_append, List.length_singleton]; omega
 ·exact h
def qf (b0 b1 : Int) : Int := b0 + 256 * (b1 % 16)
def oP (b1 b2 : Int) : Int := b1 / 16 + 16 * b2
/-- Three bytes taken in. -/
def o6 (l : List Int) (b0 b1 b2 : Int) : List Int := put (put l (qf b0 b1)) (oP b1 b2)
theorem px (l : List Int) (b0 b1 b2 : Int) (h : l.length ≤ 256) : (o6 l b0 b1 b2).length ≤ 256 := na _ _ (na _ _ h)
/-- The state of block m of the stream. -/
def dU (s : ByteArray) : Nat → ByteArray
 | 0 => s
 | m + 1 => eO (dU s m)
theorem iQ (s : ByteArray) (hs : s.size = 200) : ∀ m, (dU s m).size = 200
 | 0 => hs
 | m + 1 => gc _
/-- Byte q of the round i. -/
def rb (s : ByteArray) (i q : Nat) : Int := bt (dU s (i / 56)) ((3 * (i % 56) + q : Nat) : Int)
def gJ (s : ByteArray) (l : List Int) (i : Nat) : List Int := o6 l (rb s i 0) (rb s i 1) (rb s i 2)
theorem jg (s : ByteArray) (l : List Int) (i : Nat) (h : l.length ≤ 256) : (gJ s l i).length ≤ 256 := px _ _ _ _ h
/-- What n rounds more make, i of them gone. -/
def goU (s : ByteArray) : Nat → List Int → Nat → List Int
 | 0, l, i => l
 | n + 1, l, i => if l.length < 256 then goU s n (gJ s l i) (i + 1) else l
def sE (s : ByteArray) : List Int := goU s 4000 [] 0
theorem pd (s : ByteArray) : ∀ n l i, l.length ≤ 256 → (goU s n l i).length ≤ 256
 | 0, l, i, h => h
 | n + 1, l, i, h => by
  simp only [goU]
  split
  ·exact pd s n _ _ (jg s l i h)
  ·exact h
def f8 (l : List Int) : List Int := l ++ List.replicate (256 - l.length) 0
theorem nQ (l : List Int) (h : l.length ≤ 256) : (f8 l).length = 256 := by
 unfold f8
 rw [List.length_append, List.length_replicate]; omega
theorem pU (s : ByteArray) (a n j : Nat) (h : a + n ≤ s.size) (hj : j < n) : bt (s.extract a (a + n)) (j : Int) = bt s ((a + j : Nat) : Int) := by
 have hs : j < (s.extract a (a + n)).size := by rw [gR s a n h]; exact hj
 rw [← cP (s.extract a (a + n)) (j : Int) (by simpa using hs), ← cP s ((a + j : Nat) : Int) (by simp; omega)]
 simp only [Int.toNat_natCast]
 rw [ByteArray.getElem_extract]
/-- The reference fills up with zeros. -/
theorem mu (l : List Int) (h : l.length ≤ 256) : Ev (fun k => ak.l1 k l) (f8 l) := by
 obtain ⟨d, hd⟩ : ∃ d, d = 256 - l.length := ⟨_, rfl⟩
 induction d generalizing l with
 | zero =>
  refine Ev.step (f := fun _ => some (f8 l)) (fun k => ?_) (Ev.now _)
  simp only [ak.l1]
  rw [Ea (by omega)]
  unfold f8
  rw [← hd, List.replicate_zero, List.append_nil]
 | succ d ih =>
  have h1 := ih (l ++ [0]) (by rw [List.length_append, List.length_singleton]; omega) (by rw [List.length_append, List.length_singleton]; omega)
  have e : f8 (l ++ [0]) = f8 l := by
   unfold f8
   rw [List.length_append, List.length_singleton, show 256 - l.length = 256 - (l.length + 1) + 1 by omega, List.replicate_succ, List.append_assoc]
   rfl
  rw [e] at h1
  refine Ev.step (fun k => ?_) h1
  simp only [ak.l1]
  rw [Da (by omega), Da (by omega)]
theorem ni (b0 b1 : Int) (h0 : 0 ≤ b0 ∧ b0 ≤ 255) (h1 : 0 ≤ b1 ∧ b1 ≤ 255) : wrap64 ((wrap64 b0) + (wrap64 (256 * (Int.tmod (wrap64 b1) 16)))) = qf b0 b1 := by
 have e0 : wrap64 b0 = b0 := w64 (by omega) (by omega)
 have e1 : wrap64 b1 = b1 := w64 (by omega) (by omega)
 rw [e0, e1, Int.tmod_eq_emod_of_nonneg h1.1]
 have e2 : wrap64 (256 * (b1 % 16)) = 256 * (b1 % 16) := w64 (by omega) (by omega)
 rw [e2]
 exact w64 (by omega) (by omega)
theorem mj (b1 b2 : Int) (h1 : 0 ≤ b1 ∧ b1 ≤ 255) (h2 : 0 ≤ b2 ∧ b2 ≤ 255) : wrap64 ((wrap64 (Int.tdiv (wrap64 b1) 16)) + (wrap64 (16 * (wrap64 b2)))) = oP b1 b2 := by
 have e0 : wrap64 b2 = b2 := w64 (by omega) (by omega)
 have e1 : wrap64 b1 = b1 := w64 (by omega) (by omega)
 rw [e0, e1, Int.tdiv_eq_ediv_of_nonneg h1.1]
 have e2 : wrap64 (16 * b2) = 16 * b2 := w64 (by omega) (by omega)
 have e3 : wrap64 (b1 / 16) = b1 / 16 := w64 (by omega) (by omega)
 rw [e2, e3]
 exact w64 (by omega) (by omega)
theorem pI (b0 b1 : Int) (h0 : 0 ≤ b0 ∧ b0 ≤ 255) (h1 : 0 ≤ b1 ∧ b1 ≤ 255) : wrap64 ((wrap64 b0) + (wrap64 ((Int.tmod (wrap64 b1) 16) * 256))) = qf b0 b1 := by
 rw [← ni b0 b1 h0 h1, Int.mul_comm]
theorem nc (l : List Int) (v : Int) (h1 : v < 3329) (h2 : l.length < 256) : put l v = l ++ [v] := Da ⟨h1, h2⟩
theorem iJ (l : List Int) (v : Int) (h : ¬ (v < 3329 ∧ l.length < 256)) : put l v = l := Ea h
/-- Where the reference stands ahead of round i. -/
def StS (s : ByteArray) (i : Nat) (x9 str : ByteArray) (at_ : Int) : Prop :=
 (i % 56 ≠ 0 ∧ x9 = (dU s (i / 56)).extract 0 168 ∧ str = dU s (i / 56) ∧ at_ = 168) ∨ (i = 0 ∧ str = s ∧ at_ = 0) ∨ (i % 56 = 0 ∧ 0 < i ∧ str = dU s (i / 56 - 1) ∧ at_ = 168)
theorem StS.next (s : ByteArray) (i : Nat) : StS s (i + 1) ((dU s (i / 56)).extract 0 168) (dU s (i / 56)) 168 := by
 unfold StS
 by_cases h : (i + 1) % 56 = 0
 ·exact Or.inr (Or.inr ⟨h, by omega, by rw [show (i + 1) / 56 - 1 = i / 56 by omega], rfl⟩)
 ·exact Or.inl ⟨h, by rw [show (i + 1) / 56 = i / 56 by omega], by rw [show (i + 1) / 56 = i / 56 by omega], rfl⟩
theorem oa (k : Nat) (s : ByteArray) (hs : s.size = 200) (l : List Int) (hl : l.length < 256) (i : Nat) (hi : i < 4000) : ak.j2 (k + 1) l ((dU s (i / 56)).extract 0 168) (i : Int) ((3 * (i % 56) : Nat) : Int) (dU s (i / 56)) 168 = ak.l0 k (gJ s l i) ((dU s (i / 56)).extract 0 168) ((i + 1 : Nat) : Int) (dU s (i / 56)) 168 := by
 have hB := iQ s hs (i / 56)
 have hz : ((dU s (i / 56)).extract 0 168).size = 168 := by rw [ByteArray.size_extract]; omega
 have w1 : wrap64 (((3 * (i % 56) : Nat) : Int) + 1) = ((3 * (i % 56) + 1 : Nat) : Int) := by rw [w64 (by omega) (by omega)]; rfl
 have w2 : wrap64 (((3 * (i % 56) : Nat) : Int) + 2) = ((3 * (i % 56) + 2 : Nat) : Int) := by rw [w64 (by omega) (by omega)]; rfl
 have w3 := dv i (by omega)
 have c1 : (0 : Int) ≤ ((3 * (i % 56) : Nat) : Int) := by omega
 have c2 : ((3 * (i % 56) : Nat) : Int) < (((dU s (i / 56)).extract 0 168).size : Int) := by rw [hz]; omega
 have c3 : (0 : Int) ≤ ((3 * (i % 56) + 1 : Nat) : Int) := by omega
 have c4 : ((3 * (i % 56) + 1 : Nat) : Int) < (((dU s (i / 56)).extract 0 168).size : Int) := by rw [hz]; omega
 have c5 : (0 : Int) ≤ ((3 * (i % 56) + 2 : Nat) : Int) := by omega
 have c6 : ((3 * (i % 56) + 2 : Nat) : Int) < (((dU s (i / 56)).extract 0 168).size : Int) := by rw [hz]; omega
 have c7 : l.length < 17592186044416 := by omega
 have c8 : (l.length : Int) < 256 := by omega
 have hb : ∀ q, q < 3 → bt ((dU s (i / 56)).extract 0 168) ((3 * (i % 56) + q : Nat) : Int) = rb s i q := by
  intro q hq
  have := pU (dU s (i / 56)) 0 168 (3 * (i % 56) + q) (by omega) (by omega)
  rw [Nat.zero_add, Nat.zero_add] at this
  exact this
 have r0 : 0 ≤ rb s i 0 ∧ rb s i 0 ≤ 255 := iD _ _
 have r1 : 0 ≤ rb s i 1 ∧ rb s i 1 ≤ 255 := iD _ _
 have r2 : 0 ≤ rb s i 2 ∧ rb s i 2 ≤ 255 := iD _ _
 have e0 : bt ((dU s (i / 56)).extract 0 168) ((3 * (i % 56) : Nat) : Int) = rb s i 0 := hb 0 (by decide)
 have e1 := hb 1 (by decide)
 have e2 := hb 2 (by decide)
 simp only [ak.j2, w1, w2, w3, e0, e1, e2]
 rw [Da c1, Da c2, Da c3, Da c4, Da c5, Da c6, ni _ _ r0 r1, mj _ _ r1 r2]
 clear e0 e1 e2 r0 r1 r2 hb w1 w2 w3 c1 c2 c3 c4 c5 c6 hz hB
 unfold gJ o6
 generalize qf (rb s i 0) (rb s i 1) = v
 generalize oP (rb s i 1) (rb s i 2) = u
 by_cases hv : v < 3329
 ·rw [Da hv, Da c7, nc l v hv hl, Option.bind_some]
  by_cases hu : u < 3329
  ·rw [Da hu]
   by_cases hq : (l ++ [v]).length < 256
   ·rw [Da (by omega), Da (by omega), nc _ u hu hq]
   ·rw [Ea (by omega), iJ _ u (by omega)]
  ·rw [Ea hu, iJ _ u (by omega)]
 ·rw [Ea hv, iJ l v (by omega)]
  by_cases hu : u < 3329
  ·rw [Da hu, Da c8, Da c7, nc _ u hu hl]
  ·rw [Ea hu, iJ _ u (by omega)]
theorem nX (s : ByteArray) (hs : s.size = 200) (l : List Int) (hl : l.length < 256) (i : Nat) (hi : i < 4000) (x9 str : ByteArray) (a : Int) (h : StS s i x9 str a) (r : List Int)
  (hr : Ev (fun k => ak.l0 k (gJ s l i) ((dU s (i / 56)).extract 0 168) ((i + 1 : Nat) : Int) (dU s (i / 56)) 168) r) : Ev (fun k => ak.j1 k l x9 (i : Int) true str a) r := by
 have e1 : wrap64 (Int.tmod (i : Int) 56 * 3) = ((3 * (i % 56) : Nat) : Int) := by
  rw [Int.tmod_eq_emod_of_nonneg (by omega), w64 (by omega) (by omega)]; omega
 have h3 : Ev (fun k => ak.j2 k l ((dU s (i / 56)).extract 0 168) (i : Int) ((3 * (i % 56) : Nat) : Int) (dU s (i / 56)) 168) r := Ev.step (fun k => oa k s hs l hl i hi) hr
 rcases h with ⟨h1, rfl, rfl, rfl⟩ | h
 ·refine Ev.step (fun k => ?_) h3
  simp only [ak.j1, e1]
  rw [Da trivial, Ea (by omega)]
 ·have hz : i % 56 = 0 := by omega
  have ht : Ev (fun k => aA.f k str a 168) (dU s (i / 56), 168, (dU s (i / 56)).extract 0 168) := by
   rcases h with ⟨rfl, rfl, rfl⟩ | ⟨_, hp, rfl, rfl⟩
   ·exact jp str 0 168 hs (by decide) (by decide)
   ·have := l9 (dU s (i / 56 - 1)) 168 (iQ s hs _) (by decide) (by decide)
    have e : eO (dU s (i / 56 - 1)) = dU s (i / 56) := by
     obtain ⟨m, hm⟩ : ∃ m, i / 56 = m + 1 := ⟨i / 56 - 1, by omega⟩
     rw [hm]; rfl
    rw [e] at this
    exact this
  refine Ev.step (f := fun k => (aA.f k str a 168).bind fun bt249 => ak.j2 k l bt249.2.2 (i : Int) ((3 * (i % 56) : Nat) : Int) bt249.1 bt249.2.1) (fun k => ?_) (Ev.bind ht h3)
  simp only [ak.j1, e1]
  rw [Da trivial, Da (by omega)]
theorem jY (s : ByteArray) (hs : s.size = 200) : ∀ n l i x9 str a, n + i = 4000 → l.length ≤ 256 → StS s i x9 str a → Ev (fun k => ak.l0 k l x9 (i : Int) str a) (f8 (goU s n l i))
 | 0, l, i, x9, str, a, hn, hl, h => by
  refine Ev.step (f := fun k => ak.j1 k l x9 (i : Int) false str a) (fun k => ?_) (Ev.step (fun k => ?_) (mu l hl))
  ·simp only [ak.l0]
   rw [Ea (by omega)]
  ·simp only [ak.j1]
   rw [Ea (by decide)]
 | n + 1, l, i, x9, str, a, hn, hl, h => by
  simp only [goU]
  by_cases hq : l.length < 256
  ·rw [Da hq]
   have ih := jY s hs n (gJ s l i) (i + 1) _ _ 168 (by omega) (jg s l i hl) (StS.next s i)
   refine Ev.step (fun k => ?_) (nX s hs l hq i (by omega) x9 str a h _ ih)
   simp only [ak.l0]
   rw [Da (by omega), wa (by omega)]
  ·rw [Ea hq]
   refine Ev.step (f := fun k => ak.j1 k l x9 (i : Int) false str a) (fun k => ?_) (Ev.step (fun k => ?_) (mu l hl))
   ·simp only [ak.l0]
    rw [Da (by omega), xa (by omega)]
   ·simp only [ak.j1]
    rw [Ea (by decide)]
/-- Where the program stands ahead of round i. -/
def StI (s : ByteArray) (i : Nat) (str : ByteArray) (at_ : Int) : Prop :=
 (i % 56 ≠ 0 ∧ str = dU s (i / 56) ∧ at_ = ((3 * (i % 56) : Nat) : Int)) ∨ (i = 0 ∧ str = s ∧ at_ = 0) ∨ (i % 56 = 0 ∧ 0 < i ∧ str = dU s (i / 56 - 1) ∧ at_ = 168)
theorem StI.next (s : ByteArray) (i : Nat) : StI s (i + 1) (dU s (i / 56)) ((3 * (i % 56) + 3 : Nat) : Int) := by
 unfold StI
 by_cases h : (i + 1) % 56 = 0
 ·exact Or.inr (Or.inr ⟨h, by omega, by rw [show (i + 1) / 56 - 1 = i / 56 by omega], by omega⟩)
 ·exact Or.inl ⟨h, by rw [show (i + 1) / 56 = i / 56 by omega], by omega⟩
theorem qe (l : List Int) (v : Int) (h : l.length < 256) : (f8 l).set l.length v = f8 (l ++ [v]) := by
 unfold f8
 rw [List.set_append_right _ _ (Aa _), Nat.sub_self, List.length_append, List.length_singleton, show 256 - l.length = 256 - (l.length + 1) + 1 by omega, List.replicate_succ, List.set_cons_zero, List.append_assoc]
 rfl
theorem nW (l y : List Int) (hl : l.length ≤ 256) (v : Int) (i : Int) (j : Nat) (hj : j < 2) (hy : y.length = 2) (hv : rd y (j : Int) = v) (str : ByteArray) (a : Int) (r : List Int)
  (h : Ev (fun k => aq.l1 k (f8 (put l v)) ((put l v).length : Int) i y 2 ((j + 1 : Nat) : Int) str a) r) : Ev (fun k => aq.l1 k (f8 l) (l.length : Int) i y 2 (j : Int) str a) r := by
 refine Ev.step (fun k => ?_) h
 have c1 : (j : Int) < 2 := by omega
 have c2 : (0 : Int) ≤ (j : Int) := by omega
 have c3 : (j : Int) < (y.length : Int) := by omega
 have w1 := dv j (by omega)
 have w2 := dv l.length (by omega)
 have hf := nQ l hl
 simp only [aq.l1, hv, w1, w2]
 rw [Da c1, Da c2, Da c3]
 by_cases h1 : v < 3329
 ·rw [Da h1]
  by_cases h2 : l.length < 256
  ·rw [Da (by omega), Da (by omega), Da (by omega), Int.toNat_natCast, nc l v h1 h2, qe l v h2, List.length_append, List.length_singleton]
  ·rw [Ea (by omega), iJ l v (by omega)]
 ·rw [Ea h1, iJ l v (by omega)]
theorem oe (s : ByteArray) (hs : s.size = 200) (l : List Int) (hl : l.length < 256) (i : Nat) (hi : i < 4000) (str : ByteArray) (a : Int) (h : StI s i str a) (r : List Int)
  (hr : Ev (fun k => aq.l0 k (f8 (gJ s l i)) ((gJ s l i).length : Int) ((i + 1 : Nat) : Int) (dU s (i / 56)) ((3 * (i % 56) + 3 : Nat) : Int)) r) : Ev (fun k => aq.j1 k (f8 l) (l.length : Int) (i : Int) true str a) r := by
 have hB := iQ s hs (i / 56)
 have ht : Ev (fun k => ap.f k str a 3) (dU s (i / 56), ((3 * (i % 56) + 3 : Nat) : Int), (dU s (i / 56)).extract (3 * (i % 56)) (3 * (i % 56) + 3)) := by
  rcases h with ⟨h1, rfl, rfl⟩ | ⟨rfl, rfl, rfl⟩ | ⟨hz, hp, rfl, rfl⟩
  ·exact gX _ (3 * (i % 56)) 3 hB (by decide) (by omega)
  ·exact gX str 0 3 hs (by decide) (by decide)
  ·have := lW (dU s (i / 56 - 1)) 3 (iQ s hs _) (by decide) (by decide)
   have e : eO (dU s (i / 56 - 1)) = dU s (i / 56) := by
    obtain ⟨m, hm⟩ : ∃ m, i / 56 = m + 1 := ⟨i / 56 - 1, by omega⟩
    rw [hm]; rfl
   rw [e] at this
   rw [hz]
   exact this
 have hz := gR (dU s (i / 56)) (3 * (i % 56)) 3 (by omega)
 have hb : ∀ q : Nat, q < 3 → bt ((dU s (i / 56)).extract (3 * (i % 56)) (3 * (i % 56) + 3)) (q : Int) = rb s i q := fun q hq => pU (dU s (i / 56)) (3 * (i % 56)) 3 q (by omega) hq
 have z0 : (0 : Int) < (((dU s (i / 56)).extract (3 * (i % 56)) (3 * (i % 56) + 3)).size : Int) := by rw [hz]; decide
 have z1 : (1 : Int) < (((dU s (i / 56)).extract (3 * (i % 56)) (3 * (i % 56) + 3)).size : Int) := by rw [hz]; decide
 have z2 : (2 : Int) < (((dU s (i / 56)).extract (3 * (i % 56)) (3 * (i % 56) + 3)).size : Int) := by rw [hz]; decide
 have w3 := dv i (by omega)
 have r0 : 0 ≤ rb s i 0 ∧ rb s i 0 ≤ 255 := iD _ _
 have r1 : 0 ≤ rb s i 1 ∧ rb s i 1 ≤ 255 := iD _ _
 have r2 : 0 ≤ rb s i 2 ∧ rb s i 2 ≤ 255 := iD _ _
 have e0 : bt ((dU s (i / 56)).extract (3 * (i % 56)) (3 * (i % 56) + 3)) 0 = rb s i 0 := hb 0 (by decide)
 have e1 : bt ((dU s (i / 56)).extract (3 * (i % 56)) (3 * (i % 56) + 3)) 1 = rb s i 1 := hb 1 (by decide)
 have e2 : bt ((dU s (i / 56)).extract (3 * (i % 56)) (3 * (i % 56) + 3)) 2 = rb s i 2 := hb 2 (by decide)
 generalize hE : (dU s (i / 56)).extract (3 * (i % 56)) (3 * (i % 56) + 3) = E at ht hz e0 e1 e2 z0 z1 z2
 refine Ev.step (f := fun k => (ap.f k str a 3).bind fun bt273 => (if 0 < (bt273.2.2.size : Int) then (if 1 < (bt273.2.2.size : Int) then (if 2 < (bt273.2.2.size : Int) then ((some (([wrap64 ((wrap64 (bt bt273.2.2 0)) + (wrap64 ((Int.tmod (wrap64 (bt bt273.2.2 1)) 16) * 256))), wrap64 ((wrap64 (Int.tdiv (wrap64 (bt bt273.2.2 1)) 16)) + (wrap64 (16 * (wrap64 (bt bt273.2.2 2)))))] : List Int) : List Int)).bind fun y277 => (aq.l1 k (f8 l) (l.length : Int) (i : Int) y277 (y277.length : Int) 0 bt273.1 bt273.2.1)) else (none)) else (none)) else (none))) (fun k => ?_) (Ev.bind ht ?_)
 ·simp only [aq.j1]
  rw [Da trivial]
 ·refine Ev.pos z0 (Ev.pos z1 (Ev.pos z2 ?_))
  simp only [Option.bind_some, e0, e1, e2, pI _ _ r0 r1, mj _ _ r1 r2]
  clear e0 e1 e2 r0 r1 r2 hb hz z0 z1 z2 ht
  unfold gJ o6 at hr
  generalize qf (rb s i 0) (rb s i 1) = v at hr ⊢
  generalize oP (rb s i 1) (rb s i 2) = u at hr ⊢
  refine nW l [v, u] (by omega) v (i : Int) 0 (by decide) rfl rfl _ _ r ?_
  refine nW (put l v) [v, u] (na _ _ (by omega)) u (i : Int) 1 (by decide) rfl rfl _ _ r ?_
  refine Ev.step (fun k => ?_) hr
  simp only [aq.l1]
  rw [Ea (by decide), w3]
theorem kk (s : ByteArray) (hs : s.size = 200) : ∀ n l i str a, n + i = 4000 → l.length ≤ 256 → StI s i str a → Ev (fun k => aq.l0 k (f8 l) (l.length : Int) (i : Int) str a) (f8 (goU s n l i))
 | 0, l, i, str, a, hn, hl, h => by
  refine Ev.step (f := fun k => aq.j1 k (f8 l) (l.length : Int) (i : Int) false str a) (fun k => ?_) (Ev.step (f := fun _ => some (f8 l)) (fun k => ?_) (Ev.now _))
  ·simp only [aq.l0]
   rw [Ea (by omega)]
  ·simp only [aq.j1]
   rw [Ea (by decide)]
 | n + 1, l, i, str, a, hn, hl, h => by
  simp only [goU]
  by_cases hq : l.length < 256
  ·rw [Da hq]
   have ih := kk s hs n (gJ s l i) (i + 1) _ _ (by omega) (jg s l i hl) (StI.next s i)
   refine Ev.step (fun k => ?_) (oe s hs l hq i (by omega) str a h _ ih)
   simp only [aq.l0]
   rw [Da (by omega), wa (by omega)]
  ·rw [Ea hq]
   refine Ev.step (f := fun k => aq.j1 k (f8 l) (l.length : Int) (i : Int) false str a) (fun k => ?_) (Ev.step (f := fun _ => some (f8 l)) (fun k => ?_) (Ev.now _))
   ·simp only [aq.l0]
    rw [Da (by omega), xa (by omega)]
   ·simp only [aq.j1]
    rw [Ea (by decide)]
def ja (s : ByteArray) (x y : Int) : List Int := f8 (sE (lx ((s ++ jy x) ++ jy y)))
theorem qc (s : ByteArray) : (sE s).length ≤ 256 := pd s 4000 [] 0 (by decide)
theorem pT (s : ByteArray) (x y : Int) : (ja s x y).length = 256 := nQ _ (qc _)
theorem kx (s : ByteArray) (x y : Int) (hs : s.size ≤ 1048576) : Ev (fun k => ak.f k s x y) (ja s x y) := by
 unfold ak.f
 have h1 := f9 x
 have h2 := f9 y
 have h3 : (s ++ jy x).size = s.size + 1 := by rw [ByteArray.size_append, h1]
 have h4 : ((s ++ jy x) ++ jy y).size = s.size + 2 := by rw [ByteArray.size_append, h2, h3]
 refine Ev.then (jH x) (Ev.pos (by omega) (Ev.then (jH y) (Ev.pos (by omega) (Ev.bind (j5 _ (by omega)) ?_))))
 exact jY _ (gK _) 4000 [] 0 _ _ 0 rfl (by decide) (Or.inr (Or.inl ⟨rfl, rfl, rfl⟩))
theorem kD (s : ByteArray) (x y : Int) (hs : s.size ≤ 1048576) : Ev (fun k => aq.f k s x y) (ja s x y) := by
 unfold aq.f
 have h1 := f9 x
 have h2 := f9 y
 have h3 : (s ++ jy x).size = s.size + 1 := by rw [ByteArray.size_append, h1]
 have h4 : ((s ++ jy x) ++ jy y).size = s.size + 2 := by rw [ByteArray.size_append, h2, h3]
 refine Ev.then (jG x) (Ev.pos (by omega) (Ev.then (jG y) (Ev.pos (by omega) (Ev.bind (j6 _ (by omega)) (Ev.pos (by decide) ?_)))))
 exact kk _ (gK _) 4000 [] 0 _ 0 rfl (by decide) (Or.inr (Or.inl ⟨rfl, rfl, rfl⟩))
end Go.Proofs.YtooanbpkknlmjaaGreatDoor.Pure
