/- Plain laws that the law FnKemBent rests on. -/
import Derived.Test.YtmiackbomcjboaaGreatDoorPx15
namespace Go.Proofs.YtmiackbomcjboaaGreatDoor.Pure
open Go.RowKit YtmiackbomcjboaaGreatDoorW.PrintWords YtmiackbomcjboaaGreatDoorW.PrintLast YtmiackbomcjboaaGreatDoorW.PrintMore YtmiackbomcjboaaGreatDoor.P YtmiackbomcjboaaGreatDoor.Kit
set_option linter.unusedVariables false
set_option linter.unusedSimpArgs false

theorem w64 {x : Int} (h1 : -9223372036854775808 ≤ x) (h2 : x ≤ 9223372036854775807) : wrap64 x = x := by unfold wrap64; omega
theorem dI (n : Nat) (h : n < 9223372036854775807) : wrap64 ((n : Int) + 1) = ((n + 1 : Nat) : Int) := by rw [w64 (by omega) (by omega)]; rfl
theorem Ev.pos {α : Type} {c : Prop} [Decidable c] {f g : Nat → Option α} {r : α} (hc : c) (h : Ev f r) : Ev (fun k => if c then f k else g k) r := by
 simpa only [Fa hc] using h
theorem Ev.neg {α : Type} {c : Prop} [Decidable c] {f g : Nat → Option α} {r : α} (hc : ¬ c) (h : Ev g r) : Ev (fun k => if c then f k else g k) r := by
 simpa only [Ga hc] using h
theorem Ev.const {α : Type} {o : Option α} {r : α} (h : o = some r) : Ev (fun _ => o) r := ⟨0, fun _ _ => h⟩
theorem Ev.then {α β : Type} {o : Option α} {f : Nat → α → Option β} {a : α} {r : β} (h : o = some a) (k : Ev (fun n => f n a) r) : Ev (fun n => o.bind (f n)) r := by
 subst h; exact k
/-- A loop that iQ up: what it answers at the end, it answers from the start. -/
theorem Ev.up {α : Type} {g : Nat → Nat → Option α} {r : α} (n : Nat) (hs : ∀ i, i < n → Ev (g (i + 1)) r → Ev (g i) r) (he : Ev (g n) r) (i : Nat) (hi : i ≤ n) : Ev (g i) r := by
 obtain ⟨d, rfl⟩ : ∃ d, n = i + d := ⟨n - i, by omega⟩
 induction d generalizing i with
 | zero => exact he
 | succ d ih =>
  refine hs i (by omega) (ih (i + 1) ?_ ?_ (by omega))
  ·intro j hj h
   exact hs j (by omega) h
  ·rw [show i + 1 + d = i + (d + 1) by omega]; exact he
/-- A loop that may stop early. -/
theorem Ev.upTo {α : Type} {g : Nat → Nat → Option α} {r : Nat → α} (n : Nat) (hs : ∀ i, i < n → Ev (g (i + 1)) (r (i + 1)) → Ev (g i) (r i)) (he : Ev (g n) (r n)) (i : Nat) (hi : i ≤ n) : Ev (g i) (r i) := by
 obtain ⟨d, rfl⟩ : ∃ d, n = i + d := ⟨n - i, by omega⟩
 induction d generalizing i with
 | zero => exact he
 | succ d ih =>
  refine hs i (by omega) (ih (i + 1) ?_ ?_ (by omega))
  ·intro j hj h
   exact hs j (by omega) h
  ·rw [show i + 1 + d = i + (d + 1) by omega]; exact he
/-- A loop that iQ up from a. -/
theorem Ev.upFrom {α : Type} {g : Nat → Nat → Option α} {r : α} (a n : Nat) (hs : ∀ i, a ≤ i → i < n → Ev (g (i + 1)) r → Ev (g i) r) (he : Ev (g n) r) (h : a ≤ n) : Ev (g a) r := by
 have := Ev.up (g := fun i => g (a + i)) (r := r) (n - a) (fun i hi h => hs (a + i) (by omega) (by omega) h) (by simpa only [show a + (n - a) = n by omega] using he) 0 (by omega)
 exact this
/-! lists -/
theorem kI (l : List Int) (i : Nat) : rd l (i : Int) = l.getD i 0 := by simp [rd]
theorem dA (l : List Int) (i : Nat) (h : i < l.length) : rd l (i : Int) = l[i] := by simp [rd, List.getD_eq_getElem?_getD, List.getElem?_eq_getElem h]
theorem oK {α : Type} (p : α → Bool) (l : List α) (i : Nat) (h : i < l.length) : (l.drop i).all p = (p l[i] && (l.drop (i + 1)).all p) := by
 rw [List.drop_eq_getElem_cons h, List.all_cons]
theorem gp {α : Type} (l : List α) (i : Nat) (h : i < l.length) : l.take i ++ [l[i]] = l.take (i + 1) := by simp
theorem lZ (a b c : Int) : (if a ≥ b then (some (decide (a ≤ c))) else (some false)) = some (decide (b ≤ a ∧ a ≤ c)) := by
 by_cases h : a ≥ b
 ·rw [Fa h]; congr 1; rw [decide_eq_decide]; constructor
  ·intro h2; exact ⟨h, h2⟩
  ·intro h2; exact h2.2
 ·rw [Ga h]; congr 1; symm; rw [decide_eq_false_iff_not]; intro h2; exact h h2.1
theorem pn {α : Type} (l : List α) (d : α) (i : Nat) (h : i < l.length) : (l.take i ++ List.replicate (l.length - i) d).set i l[i] = l.take (i + 1) ++ List.replicate (l.length - (i + 1)) d := by
 apply List.ext_getElem
 ·simp; omega
 ·intro j h1 h2
  simp only [List.getElem_set, List.getElem_append, List.length_take, List.getElem_take, List.getElem_replicate]
  split
  ·subst_vars
   rw [dif_pos (by omega)]
  ·by_cases hj : j < i
   ·rw [dif_pos (by omega), dif_pos (by omega)]
   ·rw [dif_neg (by omega), dif_neg (by omega)]
/-- The first L bytes of S, the least first. -/
def cE (L S : Nat) : List Int := (List.range L).map fun j => ((S / 256 ^ j % 256 : Nat) : Int)
theorem fp (L S : Nat) : (cE L S).length = L := by simp [cE]
theorem fg (L S j : Nat) (h : j < (cE L S).length) : (cE L S)[j] = ((S / 256 ^ j % 256 : Nat) : Int) := by simp [cE]
theorem pd (L : Nat) : cE L 0 = List.replicate L 0 := by
 apply List.ext_getElem
 ·simp [cE]
 ·intro j h1 h2
  rw [fg]; simp
theorem lz (L S : Nat) : cE L S ++ [((S / 256 ^ L % 256 : Nat) : Int)] = cE (L + 1) S := by simp [cE, List.range_succ]
theorem gX (j : Nat) : 256 ^ j = 2 ^ (8 * j) := by rw [Nat.pow_mul]
theorem sQ {S P T b : Nat} (hP : 0 < P) (hS : S < P * T) (hT : T ≤ 128) (hb : b ≤ 1) : S / P % 256 + b * T = (S + b * (P * T)) / P % 256 := by
 have hq : S / P < T := Nat.div_lt_of_lt_mul hS
 have hb2 : b * T ≤ T := by
  have := Nat.mul_le_mul_right T hb
  omega
 rw [show b * (P * T) = P * (b * T) from Nat.mul_left_comm .., Nat.add_mul_div_left _ _ hP]
 obtain ⟨q, hq'⟩ : ∃ q, S / P = q := ⟨_, rfl⟩
 obtain ⟨u, hu⟩ : ∃ u, b * T = u := ⟨_, rfl⟩
 rw [hq'] at hq ⊢
 rw [hu] at hb2 ⊢
 rw [Nat.mod_eq_of_lt (show q < 256 by omega), Nat.mod_eq_of_lt (show q + u < 256 by omega)]
/-- Setting a bit above all others. -/
theorem p4 (L S m b : Nat) (hS : S < 2 ^ m) (hb : b ≤ 1) :
  (cE L S).set (m / 8) ((((S / 256 ^ (m / 8)) % 256 + b * 2 ^ (m % 8) : Nat)) : Int) = cE L (S + b * 2 ^ m) := by
 have hmm : 2 ^ m = 256 ^ (m / 8) * 2 ^ (m % 8) := by rw [gX, ← Nat.pow_add]; congr 1; omega
 have h7 : 2 ^ (m % 8) ≤ 128 := by
  have : m % 8 ≤ 7 := by omega
  exact Nat.pow_le_pow_right (n := 2) (by omega) this
 apply List.ext_getElem
 ·simp [cE]
 ·intro j h1 h2
  rw [List.getElem_set, fg, fg]
  by_cases hj : m / 8 = j
  ·rw [Fa hj]; subst hj
   congr 1
   rw [hmm]
   exact sQ (Nat.pow_pos (by omega)) (by rw [← hmm]; exact hS) h7 hb
  ·rw [Ga hj]
   congr 1
   by_cases hlt : j < m / 8
   ·obtain ⟨d, hd⟩ : ∃ d, m / 8 = j + 1 + d := ⟨m / 8 - (j + 1), by omega⟩
    have e : b * 2 ^ m = 256 ^ j * (256 * (256 ^ d * (b * 2 ^ (m % 8)))) := by
     rw [hmm, hd, Nat.pow_add, Nat.pow_add]; simp only [Nat.pow_one, Nat.mul_assoc, Nat.mul_comm, Nat.mul_left_comm]
    rw [e, Nat.add_mul_div_left _ _ (Nat.pow_pos (by omega)), Nat.add_mul_mod_self_left]
   ·have hle : 2 ^ (m + 1) ≤ 256 ^ j := by rw [gX]; exact Nat.pow_le_pow_right (by omega) (by omega)
    rw [Nat.pow_succ] at hle
    have hb2 : b * 2 ^ m ≤ 2 ^ m := by
     have := Nat.mul_le_mul_right (2 ^ m) hb
     omega
    rw [Nat.div_eq_of_lt (by omega), Nat.div_eq_of_lt (by omega)]
/-- Numbers of b bits, side by side, the first lowest. -/
def gK (b : Nat) : List Nat → Nat
 | [] => 0
 | x :: l => x + 2 ^ b * gK b l
theorem nc (b : Nat) (l : List Nat) (x : Nat) : gK b (l ++ [x]) = gK b l + 2 ^ (b * l.length) * x := by
 induction l with
 | nil => simp [gK]
 | cons a l ih =>
  simp only [List.cons_append, gK, ih, List.length_cons, Nat.mul_add, Nat.mul_succ, Nat.pow_add]
  rw [Nat.add_assoc]; congr 2
  rw [← Nat.mul_assoc, Nat.mul_comm (2 ^ b)]
theorem lT (b : Nat) (l : List Nat) (h : ∀ x ∈ l, x < 2 ^ b) : gK b l < 2 ^ (b * l.length) := by
 induction l with
 | nil => simp [gK]
 | cons a l ih =>
  have h1 := h a (List.mem_cons_self ..)
  have h2 := ih fun x hx => h x (List.mem_cons_of_mem _ hx)
  simp only [gK, List.length_cons, Nat.mul_succ, Nat.pow_add]
  have h3 : 2 ^ b * gK b l + 2 ^ b ≤ 2 ^ b * 2 ^ (b * l.length) := by
   rw [← Nat.mul_succ]; exact Nat.mul_le_mul_left _ h2
  rw [Nat.mul_comm (2 ^ (b * l.length))]
  omega
theorem mt (b : Nat) (l : List Nat) (i : Nat) (h : i < l.length) : gK b (l.take (i + 1)) = gK b (l.take i) + 2 ^ (b * i) * l[i] := by
 rw [← List.take_append_getElem h, nc, List.length_take, Nat.min_eq_left (by omega)]
/-- The dg of S of b bits each are what they are put together again. -/
theorem pp (b S n : Nat) : gK b ((List.range n).map fun i => S / 2 ^ (b * i) % 2 ^ b) = S % 2 ^ (b * n) := by
 induction n with
 | zero => simp [gK, Nat.mod_one]
 | succ n ih =>
  rw [List.range_succ, List.map_append, List.map_cons, List.map_nil, nc, ih, List.length_map, List.length_range, Nat.mul_succ, Nat.pow_add, Nat.mod_mul]
theorem mG (b : Nat) (l : List Nat) (h : ∀ x ∈ l, x < 2 ^ b) (i : Nat) (hi : i < l.length) : gK b l / 2 ^ (b * i) % 2 ^ b = l[i] := by
 induction l generalizing i with
 | nil => exact absurd hi (by simp)
 | cons a l ih =>
  have h1 := h a (List.mem_cons_self ..)
  cases i with
  | zero => simp only [gK, Nat.mul_zero, Nat.pow_zero, Nat.div_one, Nat.add_mul_mod_self_left, List.getElem_cons_zero]; exact Nat.mod_eq_of_lt h1
  | succ i =>
   have h2 := ih (fun x hx => h x (List.mem_cons_of_mem _ hx)) i (by simpa using hi)
   simp only [gK, List.getElem_cons_succ]
   rw [Nat.mul_succ, Nat.add_comm (b * i), Nat.pow_add, ← Nat.div_div_eq_div_mul, Nat.add_mul_div_left _ _ (Nat.two_pow_pos b), Nat.div_eq_of_lt h1, Nat.zero_add]
   exact h2
/-- The number that bytes write. -/
def dy (s : ByteArray) : Nat := gK 8 (s.data.toList.map UInt8.toNat)
theorem lX (s : ByteArray) : dy s < 256 ^ s.size := by
 have h := lT 8 (s.data.toList.map UInt8.toNat) (by
  intro x hx
  obtain ⟨c, _, rfl⟩ := List.mem_map.mp hx
  exact c.toNat_lt)
 rw [List.length_map, Array.length_toList, Nat.pow_mul] at h
 exact h
theorem n9 (s : ByteArray) (j : Nat) (h : j < s.size) : bt s (j : Int) = ((dy s / 256 ^ j % 256 : Nat) : Int) := by
 have h2 := mG 8 (s.data.toList.map UInt8.toNat) (by
  intro x hx
  obtain ⟨c, _, rfl⟩ := List.mem_map.mp hx
  exact c.toNat_lt) j (by simpa using h)
 rw [Nat.pow_mul] at h2
 unfold dy
 rw [show (256 : Nat) = 2 ^ 8 from rfl, h2]
 unfold bt
 rw [dif_pos (by simpa using h)]
 simp
 rfl
theorem jO (xs : List Int) (i : Nat) (h : i < (strOfNums xs).size) : (strOfNums xs)[i] = UInt8.ofNat (xs[i]'(by simpa [strOfNums_size] using h)).toNat := by
 simp [strOfNums, ByteArray.getElem_eq_getElem_data]
theorem eW {s t : ByteArray} (h : s.data.toList = t.data.toList) : s = t := by
 cases s; cases t; congr 1; exact Array.toList_inj.mp h
theorem nP {s t : ByteArray} : s.toList = t.toList ↔ s = t := by
 constructor
 ·intro h
  refine eW ?_
  simpa [← ByteArray.toList_eq] using h
 ·rintro rfl; rfl
theorem jV (s : ByteArray) : strOfNums (cE s.size (dy s)) = s := by
 refine eW ?_
 rw [strOfNums_data]
 apply List.ext_getElem
 ·simp [cE]
 ·intro j h1 h2
  have hj : j < s.size := by simpa [cE] using h1
  have h3 := n9 s j hj
  rw [List.getElem_map, fg, ← h3]
  unfold bt
  rw [dif_pos (by simpa using hj)]
  simp
  rfl
theorem ni {L S T : Nat} (hS : S < 256 ^ L) (hT : T < 256 ^ L) (h : strOfNums (cE L S) = strOfNums (cE L T)) : S = T := by
 have key : ∀ L S T : Nat, S < 256 ^ L → T < 256 ^ L → (∀ j, j < L → S / 256 ^ j % 256 = T / 256 ^ j % 256) → S = T := by
  intro L
  induction L with
  | zero => intro S T h1 h2 _; simp at h1 h2; omega
  | succ L ih =>
   intro S T h1 h2 h3
   have e0 := h3 0 (by omega)
   simp only [Nat.pow_zero, Nat.div_one] at e0
   have e1 := ih (S / 256) (T / 256) (by rw [Nat.pow_succ] at h1; omega) (by rw [Nat.pow_succ] at h2; omega) (fun j hj => by
    have := h3 (j + 1) (by omega)
    rw [Nat.pow_succ, Nat.mul_comm, ← Nat.div_div_eq_div_mul, ← Nat.div_div_eq_div_mul] at this
    exact this)
   omega
 refine key L S T hS hT fun j hj => ?_
 have h4 := congrArg (fun s : ByteArray => s.data.toList[j]?) h
 simp only [strOfNums_data] at h4
 rw [List.getElem?_eq_getElem (by simpa [cE] using hj), List.getElem?_eq_getElem (by simpa [cE] using hj), List.getElem_map, List.getElem_map, fg, fg] at h4
 injection h4 with h4
 have h5 := congrArg UInt8.toNat h4
 rw [Int.toNat_natCast, Int.toNat_natCast] at h5
 simpa using h5
def EqQ (x y : Int) : Prop := x % 3329 = y % 3329
theorem EqQ.refl (x : Int) : EqQ x x := rfl
theorem EqQ.of {x y : Int} (h : x = y) : EqQ x y := by rw [h]; exact EqQ.refl y
theorem EqQ.symm {x y : Int} (h : EqQ x y) : EqQ y x := Eq.symm h
theorem EqQ.trans {x y z : Int} (h : EqQ x y) (k : EqQ y z) : EqQ x z := Eq.trans h k
theorem EqQ.mod (x : Int) : EqQ (x % 3329) x := Int.emod_emod_of_dvd _ (Int.dvd_refl _)
theorem EqQ.neg {x y : Int} (h : EqQ x y) : EqQ (-x) (-y) := by unfold EqQ at *; omega
theorem EqQ.mul {x y z w : Int} (h : EqQ x y) (k : EqQ z w) : EqQ (x * z) (y * w) := by
 unfold EqQ at *
 rw [Int.mul_emod, h, k, ← Int.mul_emod]
theorem EqQ.eq {x y : Int} (h : EqQ x y) (h0 : 0 ≤ x) (h1 : x ≤ 3328) (h2 : 0 ≤ y) (h3 : y ≤ 3328) : x = y := by unfold EqQ at h; omega
theorem EqQ.eqm {x y : Int} (h : EqQ x y) : x % 3329 = y % 3329 := h
theorem fj (x : Int) : 0 ≤ x % 3329 ∧ x % 3329 ≤ 3328 := by omega
theorem f8 (a b c : Int) : aZ.f a b c = some (decide (b ≤ a ∧ a ≤ c)) := lZ a b c
theorem nu (a b c : Int) : b8.f a b c = some (decide (b ≤ a ∧ a ≤ c)) := lZ a b c
theorem tY {i : Nat} (h : i ≤ 62) : (2 : Int) ^ i ≤ 4611686018427387904 := by
 have := Nat.pow_le_pow_right (n := 2) (by omega) h
 have h2 : ((2 ^ i : Nat) : Int) ≤ ((2 ^ 62 : Nat) : Int) := Int.ofNat_le.mpr this
 simpa using h2
theorem oE (i : Nat) : (0 : Int) < 2 ^ i := Int.pow_pos (by omega)
theorem fG (n : Int) (h : n ≤ 62) : Ev (fun k => ax.f k n) (2 ^ n.toNat) := by
 unfold ax.f
 refine Ev.up (g := fun i k => ax.l0 k n (2 ^ i) (i : Int)) (r := (2 : Int) ^ n.toNat) n.toNat ?_ ?_ 0 (by omega)
 ·intro i hi h'
  refine Ev.step (fun k => ?_) h'
  simp only [ax.l0]
  have h1 := tY (i := i + 1) (by omega)
  have h2 := oE i
  rw [Int.pow_succ] at h1
  rw [Fa (by omega), dI i (by omega), w64 (by omega) (by omega), Int.pow_succ, Int.mul_comm]
 ·refine Ev.step (f := fun _ => some ((2 : Int) ^ n.toNat)) (fun k => ?_) (Ev.now _)
  simp only [ax.l0]
  rw [Ga (by omega)]
theorem oN (x n : Int) (h : n ≤ 64) : shl .i64 x n = wrap64 (x * 2 ^ n.toNat) := by
 unfold shl
 rw [bB, show min n.toNat IntKind.i64.bits = n.toNat by simp [IntKind.bits]; omega]
theorem uy (x n : Int) (h : n ≤ 64) : shr .i64 x n = x / 2 ^ n.toNat := by
 unfold shr
 rw [show min n.toNat IntKind.i64.bits = n.toNat by simp [IntKind.bits]; omega]
def fm (x d : Int) : Int := if (0 ≤ x ∧ x ≤ 3328) ∧ 1 ≤ d ∧ d ≤ 11 then (2 ^ d.toNat * x + 1664) / 3329 % 2 ^ d.toNat else 0
def dn (y d : Int) : Int := if (1 ≤ d ∧ d ≤ 11) ∧ 0 ≤ y ∧ y ≤ 2 ^ d.toNat - 1 then (3329 * y + 2 ^ (d - 1).toNat) / 2 ^ d.toNat else 0
theorem jm {x d : Int} (hx : 0 ≤ x ∧ x ≤ 3328) (hd : 1 ≤ d ∧ d ≤ 11) : fm x d = (2 ^ d.toNat * x + 1664) / 3329 % 2 ^ d.toNat := Fa ⟨hx, hd⟩
theorem gb {x d : Int} (h : ¬ ((0 ≤ x ∧ x ≤ 3328) ∧ 1 ≤ d ∧ d ≤ 11)) : fm x d = 0 := Ga h
theorem gE {y d : Int} (hd : 1 ≤ d ∧ d ≤ 11) (hy : 0 ≤ y ∧ y ≤ 2 ^ d.toNat - 1) : dn y d = (3329 * y + 2 ^ (d - 1).toNat) / 2 ^ d.toNat := Fa ⟨hd, hy⟩
theorem gL {y d : Int} (h : ¬ ((1 ≤ d ∧ d ≤ 11) ∧ 0 ≤ y ∧ y ≤ 2 ^ d.toNat - 1)) : dn y d = 0 := Ga h
theorem d11 {d : Int} (h1 : 1 ≤ d) (h2 : d ≤ 11) : d = 1 ∨ d = 2 ∨ d = 3 ∨ d = 4 ∨ d = 5 ∨ d = 6 ∨ d = 7 ∨ d = 8 ∨ d = 9 ∨ d = 10 ∨ d = 11 := by omega
theorem oB {d : Int} (h1 : 1 ≤ d) (h2 : d ≤ 11) : (2 : Int) ≤ 2 ^ d.toNat ∧ (2 : Int) ^ d.toNat ≤ 2048 := by
 rcases d11 h1 h2 with rfl | rfl | rfl | rfl | rfl | rfl | rfl | rfl | rfl | rfl | rfl <;> decide
theorem pm {d : Int} (h1 : 1 ≤ d) : (2 : Int) ^ d.toNat = 2 * 2 ^ (d - 1).toNat := by
 rw [show d.toNat = (d - 1).toNat + 1 by omega, Int.pow_succ, Int.mul_comm]
theorem mh {t x : Int} (ht0 : 0 ≤ t) (ht : t ≤ 2048) (h0 : 0 ≤ x) (h1 : x ≤ 3328) : 0 ≤ t * x ∧ t * x ≤ 6815744 := by
 refine ⟨Int.mul_nonneg ht0 h0, ?_⟩
 have := Int.mul_le_mul ht h1 h0 (by omega)
 omega
theorem qw {t x : Int} (h0 : 0 ≤ t * x) (h1 : t * x ≤ 6815744) : Int.tmod (wrap64 (Int.tdiv (wrap64 (t * x + 1664)) 3329)) t = (t * x + 1664) / 3329 % t := by
 rw [w64 (x := t * x + 1664) (by omega) (by omega), Int.tdiv_eq_ediv_of_nonneg (by omega), w64 (x := (t * x + 1664) / 3329) (by omega) (by omega), Int.tmod_eq_emod_of_nonneg (by omega)]
theorem ta {a y t : Int} (ht : 2 ≤ t) (h0 : 0 ≤ 3329 * y + a) (h1 : 3329 * y + a ≤ 1000000000) (hy : -1000000 ≤ y ∧ y ≤ 1000000) : wrap64 (Int.tdiv (wrap64 ((wrap64 (3329 * y)) + a)) t) = (3329 * y + a) / t := by
 rw [w64 (x := 3329 * y) (by omega) (by omega), w64 (x := 3329 * y + a) (by omega) (by omega), Int.tdiv_eq_ediv_of_nonneg (by omega)]
 have h2 := Int.ediv_nonneg (a := 3329 * y + a) (b := t) (by omega) (by omega)
 have h3 := Int.ediv_le_self (a := 3329 * y + a) t (by omega)
 exact w64 (by omega) (by omega)
theorem lB (x d : Int) : Ev (fun k => bK.f k x d) (fm x d) := by
 unfold bK.f
 simp only [f8, Option.bind_some]
 by_cases hx : 0 ≤ x ∧ x ≤ 3328
 ·refine Ev.pos (by simpa using hx) ?_
  by_cases hd : 1 ≤ d ∧ d ≤ 11
  ·rw [jm hx hd]
   have hb := oB hd.1 hd.2
   have hm := mh (by omega) hb.2 hx.1 hx.2
   refine Ev.step (f := fun k => (ax.f k d).bind fun t103 => ((ax.f k d).bind fun t104 => (if t104 = 0 then (none) else (some (Int.tmod (wrap64 (Int.tdiv (wrap64 ((wrap64 (t103 * x)) + 1664)) 3329)) t104))))) (fun k => ?_) ?_
   ·simp only [bK.j0]
    rw [Ga (by simpa using hd)]
   ·refine Ev.bind (fG d (by omega)) (Ev.bind (fG d (by omega)) (Ev.neg (by omega) (Ev.const ?_)))
    rw [w64 (x := 2 ^ d.toNat * x) (by omega) (by omega), qw (by omega) (by omega)]
  ·rw [gb (fun h => hd h.2)]
   refine Ev.step (f := fun _ => some 0) (fun k => ?_) (Ev.now _)
   simp only [bK.j0]
   rw [Fa (by rw [za hd]; rfl)]
 ·rw [gb (fun h => hx h.1)]
  refine Ev.neg (by simpa using hx) ?_
  refine Ev.step (f := fun _ => some 0) (fun k => ?_) (Ev.now _)
  simp only [bK.j0, if_true]
theorem lP (x d : Int) : eK.f x d = some (fm x d) := by
 unfold eK.f
 simp only [nu, Option.bind_some]
 by_cases hx : 0 ≤ x ∧ x ≤ 3328
 ·rw [Fa (by simpa using hx)]
  by_cases hd : 1 ≤ d ∧ d ≤ 11
  ·have hb := oB hd.1 hd.2
   have hm := mh (by omega) hb.2 hx.1 hx.2
   rw [jm hx hd, Fa (ya hd), Fa (by omega), oN _ _ (by omega), oN _ _ (by omega), Int.one_mul, Int.mul_comm x,
    w64 (x := 2 ^ d.toNat) (by omega) (by omega), Ga (by omega), w64 (x := 2 ^ d.toNat * x) (by omega) (by omega), qw (by omega) (by omega)]
  ·rw [gb (fun h => hd h.2), Ga (by rw [za hd]; decide)]
 ·rw [gb (fun h => hx h.1), Ga (by rw [za hx]; decide)]
theorem jc (y d : Int) : Ev (fun k => bA.f k y d) (dn y d) := by
 unfold bA.f
 simp only [f8, Option.bind_some]
 by_cases hd : 1 ≤ d ∧ d ≤ 11
 ·have hb := oB hd.1 hd.2
  have hh := pm hd.1
  refine Ev.pos (by simpa using hd) (Ev.bind (fG d (by omega)) ?_)
  rw [w64 (by omega) (by omega)]
  by_cases hy : 0 ≤ y ∧ y ≤ 2 ^ d.toNat - 1
  ·rw [gE hd hy]
   refine Ev.step (f := fun k => (ax.f k (wrap64 (d - 1))).bind fun t112 => ((ax.f k d).bind fun t113 => (if t113 = 0 then (none) else (some (wrap64 (Int.tdiv (wrap64 ((wrap64 (3329 * y)) + t112)) t113)))))) (fun k => ?_) ?_
   ·simp only [bA.j0]
    rw [Ga (by simpa using hy)]
   ·rw [w64 (x := d - 1) (by omega) (by omega)]
    refine Ev.bind (fG (d - 1) (by omega)) (Ev.bind (fG d (by omega)) (Ev.neg (by omega) (Ev.const ?_)))
    rw [ta (by omega) (by omega) (by omega) (by omega)]
  ·rw [gL (fun h => hy h.2)]
   refine Ev.step (f := fun _ => some 0) (fun k => ?_) (Ev.now _)
   simp only [bA.j0]
   rw [Fa (by rw [za hy]; rfl)]
 ·rw [gL (fun h => hd h.1)]
  refine Ev.neg (by simpa using hd) ?_
  refine Ev.step (f := fun _ => some 0) (fun k => ?_) (Ev.now _)
  simp only [bA.j0, if_true]
theorem iX (y d : Int) : dR.f y d = some (dn y d) := by
 unfold dR.f
 simp only [nu, Option.bind_some]
 by_cases hd : 1 ≤ d ∧ d ≤ 11
 ·have hb := oB hd.1 hd.2
  have hh := pm hd.1
  rw [Fa (by simpa using hd), Fa (by omega), oN 1 d (by omega), Int.one_mul, w64 (x := 2 ^ d.toNat) (by omega) (by omega), w64 (x := 2 ^ d.toNat - 1) (by omega) (by omega), w64 (x := d - 1) (by omega) (by omega)]
  by_cases hy : 0 ≤ y ∧ y ≤ 2 ^ d.toNat - 1
  ·rw [gE hd hy, Fa (ya hy), Fa (by omega), oN 1 (d - 1) (by omega), uy _ d (by omega), Int.one_mul, w64 (x := 2 ^ (d - 1).toNat) (by omega) (by omega), w64 (x := 3329 * y) (by omega) (by omega), w64 (by omega) (by omega)]
  ·rw [gL (fun h => hy h.2), Ga (by rw [za hy]; decide)]
 ·rw [gL (fun h => hd h.1), Ga (by rw [za hd]; decide)]
def inQ (x : Int) : Bool := decide (0 ≤ x ∧ x ≤ 3328)
def bU (l : List Int) : Bool := decide (l.length = 256) && l.all inQ
theorem gv {l : List Int} (h : bU l = true) : l.length = 256 := by
 unfold bU at h; rw [Bool.and_eq_true] at h; exact of_decide_eq_true h.1
theorem l6 {l : List Int} (h : bU l = true) {x : Int} (hx : x ∈ l) : 0 ≤ x ∧ x ≤ 3328 := by
 unfold bU at h; rw [Bool.and_eq_true] at h
 exact of_decide_eq_true (List.all_eq_true.mp h.2 x hx)
theorem pW {l : List Int} (h : bU l = true) (i : Nat) (hi : i < l.length) : 0 ≤ l[i] ∧ l[i] ≤ 3328 := l6 h (List.getElem_mem hi)
theorem kD {l : List Int} (h : l.length = 256) (hx : ∀ x ∈ l, 0 ≤ x ∧ x ≤ 3328) : bU l = true := by
 unfold bU; rw [Bool.and_eq_true]
 exact ⟨ya h, List.all_eq_true.mpr fun x hm => ya (hx x hm)⟩
theorem dx (l : List Int) : Ev (fun k => au.f k l) (bU l) := by
 unfold au.f bU
 by_cases hl : l.length = 256
 ·refine Ev.pos (by omega) ?_
  rw [ya hl, Bool.true_and]
  refine Ev.upTo (g := fun i k => au.l0 k l (i : Int)) (r := fun i => (l.drop i).all inQ) l.length ?_ ?_ 0 (by omega)
  ·intro i hi h
   simp only [oK inQ l i hi]
   cases hb : inQ l[i] with
   | true =>
    rw [Bool.true_and]
    refine Ev.step (fun k => ?_) h
    simp only [au.l0, f8, Option.bind_some]
    rw [Fa (by omega), Fa (by omega), dA l i hi, Fa (show decide (0 ≤ l[i] ∧ l[i] ≤ 3328) = true from hb), dI i (by omega)]
   | false =>
    rw [Bool.false_and]
    refine Ev.step (f := fun _ => some false) (fun k => ?_) (Ev.now _)
    simp only [au.l0, f8, Option.bind_some]
    rw [Fa (by omega), Fa (by omega), dA l i hi, Ga (by unfold inQ at hb; rw [hb]; decide)]
  ·refine Ev.step (f := fun _ => some ((l.drop l.length).all inQ)) (fun k => ?_) (Ev.now _)
   simp only [au.l0]
   rw [Ga (by omega)]
   simp
 ·refine Ev.neg (by omega) ?_
  rw [za hl, Bool.false_and]
  exact Ev.now _
theorem dJ (l : List Int) (hl : l.length ≤ 35184372088832) : Ev (fun k => aw.f k l) (bU l) := by
 unfold aw.f bU
 have h := Ev.upTo (g := fun i k => aw.l0 k l l (l.length : Int) (i : Int)) (r := fun i => decide (l.length = 256) && (l.drop i).all inQ) l.length ?_ ?_ 0 (by omega)
 ·simpa using h
 ·intro i hi h
  simp only [oK inQ l i hi]
  cases hb : inQ l[i] with
  | true =>
   rw [Bool.true_and]
   refine Ev.step (fun k => ?_) h
   simp only [aw.l0, nu, Option.bind_some]
   rw [Fa (by omega), Fa (by omega), Fa (by omega), dA l i hi, Fa (show decide (0 ≤ l[i] ∧ l[i] ≤ 3328) = true from hb), dI i (by omega)]
  | false =>
   rw [Bool.false_and, Bool.and_false]
   refine Ev.step (f := fun _ => some false) (fun k => ?_) (Ev.now _)
   simp only [aw.l0, nu, Option.bind_some]
   rw [Fa (by omega), Fa (by omega), Fa (by omega), dA l i hi, Ga (by unfold inQ at hb; rw [hb]; decide)]
 ·refine Ev.step (f := fun _ => some (decide (l.length = 256) && (l.drop l.length).all inQ)) (fun k => ?_) (Ev.now _)
  simp only [aw.l0]
  rw [Ga (by omega)]
  simp
  by_cases h : l.length = 256
  ·rw [ya h, h]; rfl
  ·rw [za h]; rw [beq_eq_false_iff_ne]; omega
def vec (f : Nat → Int) : List Int := (List.range 256).map f
theorem bn (f : Nat → Int) : (vec f).length = 256 := by simp [vec]
theorem fQ (f : Nat → Int) (i : Nat) (h : i < (vec f).length) : (vec f)[i] = f i := by simp [vec]
theorem dM (f : Nat → Int) (i : Nat) (h : i < 256) : rd (vec f) (i : Int) = f i := by rw [dA _ _ (by rw [bn]; exact h), fQ]
theorem dZ {f g : Nat → Int} (h : ∀ i, i < 256 → f i = g i) : vec f = vec g := by
 apply List.ext_getElem
 ·rw [bn, bn]
 ·intro i h1 h2
  rw [fQ, fQ]
  exact h i (by rw [bn] at h1; exact h1)
theorem fR (f : Nat → Int) (n : Nat) (v : Int) : (vec f).set n v = vec fun i => if i = n then v else f i := by
 apply List.ext_getElem
 ·rw [List.length_set, bn, bn]
 ·intro i h1 h2
  rw [List.getElem_set, fQ, fQ]
  by_cases h : n = i
  ·rw [Fa h, Fa h.symm]
  ·rw [Ga h, Ga (fun e => h e.symm)]
theorem tI {l : List Int} (h : l.length = 256) : l = vec fun i => rd l i := by
 apply List.ext_getElem
 ·rw [bn, h]
 ·intro i h1 h2
  rw [fQ, dA l i h1]
theorem gz (d : Int) : List.replicate 256 d = vec fun _ => d := by
 apply List.ext_getElem
 ·rw [bn, List.length_replicate]
 ·intro i h1 h2
  rw [fQ, List.getElem_replicate]
theorem eo {f : Nat → Int} (h : ∀ i, i < 256 → 0 ≤ f i ∧ f i ≤ 3328) : bU (vec f) = true := by
 refine kD (bn f) fun x hx => ?_
 obtain ⟨i, hi, rfl⟩ := List.mem_map.mp hx
 exact h i (List.mem_range.mp hi)
theorem pM {f : Nat → Int} (h : bU (vec f) = true) (i : Nat) (hi : i < 256) : 0 ≤ f i ∧ f i ≤ 3328 := by
 have := pW h i (by rw [bn]; exact hi)
 rwa [fQ] at this
/-- A right polynomial is 256 numbers in their range. -/
theorem sx {l : List Int} (h : bU l = true) : ∃ f, l = vec f ∧ ∀ i, i < 256 → 0 ≤ f i ∧ f i ≤ 3328 := by
 have e := tI (gv h)
 refine ⟨_, e, fun i hi => ?_⟩
 rw [e] at h
 exact pM h i hi
/-- The same, each place 0 beyond the last. -/
theorem fY {l : List Int} (h : bU l = true) : ∃ f, l = vec f ∧ ∀ i, 0 ≤ f i ∧ f i ≤ 3328 := by
 obtain ⟨f, rfl, hf⟩ := sx h
 refine ⟨fun i => if i < 256 then f i else 0, dZ fun i hi => (Fa hi).symm, fun i => ?_⟩
 show 0 ≤ (if i < 256 then f i else 0) ∧ (if i < 256 then f i else 0) ≤ 3328
 split
 ·exact hf i ‹_›
 ·omega
theorem gA (n : Int) (h1 : -9223372036854775808 ≤ n) (h2 : n ≤ 9223372036854775807) : cd.f n = some (n % 3329) := by
 unfold cd.f
 congr 1
 by_cases h : 0 ≤ n
 ·rw [Int.tmod_eq_emod_of_nonneg h, w64 (by omega) (by omega), Int.tmod_eq_emod_of_nonneg (by omega)]
  omega
 ·have e : Int.tmod n 3329 = -((-n) % 3329) := by
   have := Int.neg_tmod (-n) 3329
   rw [Int.neg_neg] at this
   rw [this, Int.tmod_eq_emod_of_nonneg (by omega)]
  rw [e, w64 (by omega) (by omega), Int.tmod_eq_emod_of_nonneg (by omega)]
  omega
theorem f7 {x y : Int} (hx : 0 ≤ x ∧ x ≤ 3328) (hy : 0 ≤ y ∧ y ≤ 3328) : 0 ≤ x * y ∧ x * y ≤ 11075584 := by
 refine ⟨Int.mul_nonneg hx.1 hy.1, ?_⟩
 have := Int.mul_le_mul hx.2 hy.2 hy.1 (by omega)
 omega
theorem lF (a b : Nat → Int) (ha : ∀ i, 0 ≤ a i ∧ a i ≤ 3328) (hb : ∀ i, 0 ≤ b i ∧ b i ≤ 3328) : Ev (fun k => bV.f k (vec a) (vec b)) (vec fun i => (a i + b i) % 3329) := by
 have key : Ev (fun k => ai.f k (vec a) (vec b)) (vec fun i => (a i + b i) % 3329) := by
  unfold ai.f
  have oka := eo (f := a) fun i _ => ha i
  have okb := eo (f := b) fun i _ => hb i
  have la := bn a
  have lb := bn b
  refine Ev.bind (oka ▸ dJ (vec a) (by omega)) (Ev.pos rfl (Ev.bind (okb ▸ dJ (vec b) (by omega)) ?_))
  refine Ev.step (f := fun k => ai.l0 k (vec a) (vec b) (List.replicate 256 0) ((256 : Nat) : Int) 0) (fun k => ?_) ?_
  ·simp only [ai.j0, Option.bind_some]
   rw [Ga (by decide), Fa (by omega), List.length_replicate]
  ·rw [gz]
   have key := Ev.up (g := fun i k => ai.l0 k (vec a) (vec b) (vec fun n => if n < i then (a n + b n) % 3329 else 0) ((256 : Nat) : Int) (i : Int)) (r := vec fun i => (a i + b i) % 3329) 256 ?_ ?_ 0 (by omega)
   ·have e : (vec fun _ => (0 : Int)) = vec fun n => if n < 0 then (a n + b n) % 3329 else 0 := dZ fun n _ => by rw [Ga (by omega)]
    rw [e]; exact key
   ·intro i hi h
    refine Ev.step (fun k => ?_) h
    have h1 := ha i
    have h2 := hb i
    simp only [ai.l0, eB.f, Option.bind_some]
    rw [Fa (by omega), Fa (by omega), Fa (by omega), Fa (by omega), dM a i hi, dM b i hi, w64 (x := a i + b i) (by omega) (by omega), gA _ (by omega) (by omega), Option.bind_some, Fa (by rw [bn]; omega), Int.toNat_natCast, fR, dI i (by omega)]
    have e : (vec fun n => if n = i then (a i + b i) % 3329 else if n < i then (a n + b n) % 3329 else 0) = vec fun n => if n < i + 1 then (a n + b n) % 3329 else 0 := by
     refine dZ fun n _ => ?_
     by_cases h1 : n = i
     ·subst h1; rw [Fa rfl, Fa (by omega)]
     ·rw [Ga h1]
      by_cases h2 : n < i
      ·rw [Fa h2, Fa (by omega)]
      ·rw [Ga h2, Ga (by omega)]
    rw [e]
   ·refine Ev.step (f := fun _ => some (vec fun i => (a i + b i) % 3329)) (fun k => ?_) (Ev.now _)
    simp only [ai.l0]
    rw [Ga (by omega)]
    exact congrArg some (dZ fun n hn => Fa hn)
 unfold bV.f
 exact Ev.bind key (Ev.now _)
theorem lI (a b : Nat → Int) (ha : ∀ i, 0 ≤ a i ∧ a i ≤ 3328) (hb : ∀ i, 0 ≤ b i ∧ b i ≤ 3328) : Ev (fun k => b7.f k (vec a) (vec b)) (vec fun i => (a i - b i) % 3329) := by
 have key : Ev (fun k => af.f k (vec a) (vec b)) (vec fun i => (a i - b i) % 3329) := by
  unfold af.f
  have oka := eo (f := a) fun i _ => ha i
  have okb := eo (f := b) fun i _ => hb i
  have la := bn a
  have lb := bn b
  refine Ev.bind (oka ▸ dJ (vec a) (by omega)) (Ev.pos rfl (Ev.bind (okb ▸ dJ (vec b) (by omega)) ?_))
  refine Ev.step (f := fun k => af.l0 k (vec a) (vec b) (List.replicate 256 0) ((256 : Nat) : Int) 0) (fun k => ?_) ?_
  ·simp only [af.j0, Option.bind_some]
   rw [Ga (by decide), Fa (by omega), List.length_replicate]
  ·rw [gz]
   have key := Ev.up (g := fun i k => af.l0 k (vec a) (vec b) (vec fun n => if n < i then (a n - b n) % 3329 else 0) ((256 : Nat) : Int) (i : Int)) (r := vec fun i => (a i - b i) % 3329) 256 ?_ ?_ 0 (by omega)
   ·have e : (vec fun _ => (0 : Int)) = vec fun n => if n < 0 then (a n - b n) % 3329 else 0 := dZ fun n _ => by rw [Ga (by omega)]
    rw [e]; exact key
   ·intro i hi h
    refine Ev.step (fun k => ?_) h
    have h1 := ha i
    have h2 := hb i
    simp only [af.l0, eE.f, Option.bind_some]
    rw [Fa (by omega), Fa (by omega), Fa (by omega), Fa (by omega), dM a i hi, dM b i hi, w64 (x := a i - b i) (by omega) (by omega), gA _ (by omega) (by omega), Option.bind_some, Fa (by rw [bn]; omega), Int.toNat_natCast, fR, dI i (by omega)]
    have e : (vec fun n => if n = i then (a i - b i) % 3329 else if n < i then (a n - b n) % 3329 else 0) = vec fun n => if n < i + 1 then (a n - b n) % 3329 else 0 := by
     refine dZ fun n _ => ?_
     by_cases h1 : n = i
     ·subst h1; rw [Fa rfl, Fa (by omega)]
     ·rw [Ga h1]
      by_cases h2 : n < i
      ·rw [Fa h2, Fa (by omega)]
      ·rw [Ga h2, Ga (by omega)]
    rw [e]
   ·refine Ev.step (f := fun _ => some (vec fun i => (a i - b i) % 3329)) (fun k => ?_) (Ev.now _)
    simp only [af.l0]
    rw [Ga (by omega)]
    exact congrArg some (dZ fun n hn => Fa hn)
 unfold b7.f
 exact Ev.bind key (Ev.now _)
def jf (l : List Int) : List Nat := l.map Int.toNat
theorem fV (l : List Int) : (jf l).length = l.length := by simp [jf]
def dX (b : Nat) (l : List Int) : ByteArray := strOfNums (cE ((l.length * b + 7) / 8) (gK b (jf l)))
def gY (b : Nat) (x : Int) : Bool := decide (0 ≤ x ∧ x ≤ 2 ^ b - 1)
def nG (l : List Int) (b : Int) : ByteArray × Bool :=
 if (1 ≤ b ∧ b ≤ 12) ∧ l.all (gY b.toNat) = true then (dX b.toNat l, true) else (⟨#[]⟩, false)
theorem kv {b : Nat} {l : List Int} (h : l.all (gY b) = true) : ∀ x ∈ jf l, x < 2 ^ b := by
 intro x hx
 obtain ⟨y, hy, rfl⟩ := List.mem_map.mp hx
 have h2 := of_decide_eq_true (List.all_eq_true.mp h y hy)
 have h3 : ((2 ^ b : Nat) : Int) = (2 : Int) ^ b := by simp
 omega
/-- The first i numbers, as one. -/
def eZ (b : Nat) (l : List Int) (i : Nat) : Nat := gK b ((jf l).take i)
theorem kM (b : Nat) (l : List Int) (i : Nat) (h : i < l.length) : eZ b l (i + 1) = eZ b l i + 2 ^ (b * i) * l[i].toNat := by
 unfold eZ
 rw [mt b (jf l) i (by rw [fV]; exact h)]
 simp [jf]
theorem ou {b : Nat} {l : List Int} (h : l.all (gY b) = true) (i : Nat) (hi : i ≤ l.length) : eZ b l i < 2 ^ (b * i) := by
 have := lT b ((jf l).take i) fun x hx => kv h x (List.mem_of_mem_take hx)
 rw [List.length_take, fV, Nat.min_eq_left hi] at this
 exact this
theorem px (b : Nat) (l : List Int) : eZ b l l.length = gK b (jf l) := by
 unfold eZ; rw [List.take_of_length_le (by rw [fV]; exact Ca _)]
theorem qG {b : Nat} {l : List Int} (h : l.all (gY b) = true) (i : Nat) (hi : i < l.length) : ∃ n : Nat, l[i] = (n : Int) ∧ n < 2 ^ b := by
 have h2 := of_decide_eq_true (List.all_eq_true.mp h l[i] (List.getElem_mem hi))
 have h3 : ((2 ^ b : Nat) : Int) = (2 : Int) ^ b := by simp
 exact ⟨l[i].toNat, by omega, by omega⟩
theorem mz (m c : Nat) : Int.tdiv (m : Int) (c : Int) = ((m / c : Nat) : Int) := by
 rw [Int.tdiv_eq_ediv_of_nonneg (by omega)]; rfl
theorem mq (m c : Nat) : Int.tmod (m : Int) (c : Int) = ((m % c : Nat) : Int) := by
 rw [Int.tmod_eq_emod_of_nonneg (by omega)]; rfl
theorem qt (m : Nat) : Int.tdiv (m : Int) 8 = ((m / 8 : Nat) : Int) := mz m 8
theorem tq (m : Nat) : Int.tmod (m : Int) 8 = ((m % 8 : Nat) : Int) := mq m 8
theorem iR (m : Nat) (h : m ≤ 9223372036854775807) : wrap64 (m : Int) = (m : Int) := w64 (by omega) (by omega)
theorem po (n : Nat) (h : n < 2 ^ 62) : Go.bits .and .i64 (n : Int) 1 = ((n % 2 : Nat) : Int) := by
 have := bits_mask .i64 63 (by decide) (fun n h0 h1 => by rw [IntKind.wrap_i64]; omega) 1 (by decide) (n : Int) (by omega) (by
  have : ((2 ^ 62 : Nat) : Int) = 2 ^ 62 := by simp
  omega)
 simpa using this
theorem qm (n : Nat) (h : n < 256) : Go.bits .and .u8 (n : Int) 1 = ((n % 2 : Nat) : Int) := by
 have := bits_mask .u8 8 (by decide) wraps_u8 1 (by decide) (n : Int) (by omega) (by omega)
 simpa using this
theorem ra (a t b : Nat) (ha : a < 2 ^ t) (ht : t ≤ 7) (hb : b ≤ 1) : Go.bits .or .u8 (a : Int) ((b * 2 ^ t : Nat) : Int) = ((a + b * 2 ^ t : Nat) : Int) := by
 have h7 : 2 ^ t ≤ 128 := Nat.pow_le_pow_right (n := 2) (by omega) ht
 have hb2 : b * 2 ^ t ≤ 2 ^ t := by
  have := Nat.mul_le_mul_right (2 ^ t) hb
  omega
 rw [(bits_nat .u8 8 (by decide) wraps_u8 a (b * 2 ^ t) (by omega) (by omega)).2, Nat.or_comm, Nat.mul_comm b, ← Nat.two_pow_add_eq_or_of_lt ha b, Nat.add_comm]
theorem qb (b t : Nat) (ht : t ≤ 7) (hb : b ≤ 1) : shl .u8 (b : Int) (t : Int) = ((b * 2 ^ t : Nat) : Int) := by
 have h7 : 2 ^ t ≤ 128 := Nat.pow_le_pow_right (n := 2) (by omega) ht
 have hb2 : b * 2 ^ t ≤ 2 ^ t := by
  have := Nat.mul_le_mul_right (2 ^ t) hb
  omega
 unfold shl
 rw [Int.toNat_natCast, show min t IntKind.u8.bits = t by simp [IntKind.bits]; omega, IntKind.wrap_u8]
 have : ((b * 2 ^ t : Nat) : Int) = (b : Int) * 2 ^ t := by simp
 omega
theorem lQ (k : IntKind) (n t : Nat) (ht : t ≤ k.bits) : shr k (n : Int) (t : Int) = ((n / 2 ^ t : Nat) : Int) := by
 unfold shr
 rw [Int.toNat_natCast, Nat.min_eq_left ht]
 simp
theorem kA (x k : Nat) : x % 2 ^ (k + 1) = x % 2 ^ k + 2 ^ k * (x / 2 ^ k % 2) := by
 rw [Nat.pow_succ, Nat.mod_mul]
theorem pA (L V b i j x : Nat) (hV : V < 2 ^ (b * i)) :
  (cE L (V + 2 ^ (b * i) * (x % 2 ^ j))).set ((i * b + j) / 8) (Go.bits .or .u8 (((V + 2 ^ (b * i) * (x % 2 ^ j)) / 256 ^ ((i * b + j) / 8) % 256 : Nat) : Int) (shl .u8 (((x / 2 ^ j % 2 : Nat) : Int) % 256) (((i * b + j) % 8 : Nat) : Int)))
   = cE L (V + 2 ^ (b * i) * (x % 2 ^ (j + 1))) := by
 obtain ⟨m, hm⟩ : ∃ m, i * b + j = m := ⟨_, rfl⟩
 have hmb : b * i + j = m := by rw [← hm, Nat.mul_comm]
 obtain ⟨S, hSe⟩ : ∃ S, V + 2 ^ (b * i) * (x % 2 ^ j) = S := ⟨_, rfl⟩
 obtain ⟨u, hu⟩ : ∃ u, x / 2 ^ j % 2 = u := ⟨_, rfl⟩
 have hu1 : u ≤ 1 := by omega
 have hS : S < 2 ^ m := by
  have h1 : x % 2 ^ j < 2 ^ j := Nat.mod_lt _ (Nat.two_pow_pos j)
  have h2 : 2 ^ (b * i) * (x % 2 ^ j) + 2 ^ (b * i) ≤ 2 ^ (b * i) * 2 ^ j := by rw [← Nat.mul_succ]; exact Nat.mul_le_mul_left _ h1
  rw [← hSe, ← hmb, Nat.pow_add]
  exact Nat.lt_of_lt_of_le (Nat.lt_of_lt_of_le (Nat.add_lt_add_right hV _) (by rw [Nat.add_comm]; exact Ca _)) h2
 have hnext : V + 2 ^ (b * i) * (x % 2 ^ (j + 1)) = S + u * 2 ^ m := by
  rw [kA, Nat.mul_add, ← hSe, ← hmb, hu, Nat.pow_add, Nat.mul_comm u, Nat.mul_assoc, Nat.add_assoc]
 have hold : S / 256 ^ (m / 8) < 2 ^ (m % 8) := by
  rw [Nat.div_lt_iff_lt_mul (Nat.pow_pos (by omega)), gX, ← Nat.pow_add, show m % 8 + 8 * (m / 8) = m by omega]; exact hS
 have h128 : 2 ^ (m % 8) ≤ 128 := Nat.pow_le_pow_right (n := 2) (by omega) (show m % 8 ≤ 7 by omega)
 have hset := p4 L S m u hS hu1
 rw [hm, hSe, hnext, hu, show ((u : Nat) : Int) % 256 = ((u : Nat) : Int) by omega, qb u (m % 8) (by omega) hu1, Nat.mod_eq_of_lt (Nat.lt_of_lt_of_le hold (Nat.le_trans h128 (by omega))), ra _ (m % 8) u hold (by omega) hu1]
 rw [Nat.mod_eq_of_lt (Nat.lt_of_lt_of_le hold (Nat.le_trans h128 (by omega)))] at hset
 exact hset
theorem l8 (l : List Int) (b : Nat) (hb1 : 1 ≤ b) (hb : b ≤ 12) (hl : l.length ≤ 1099511627776) (hf : l.all (gY b) = true) (i : Nat) (hi : i < l.length) {r : ByteArray}
  (h : Ev (fun k => aA.l0 k (b : Int) (cE ((l.length * b + 7) / 8) (eZ b l (i + 1))) l (l.length : Int) ((i + 1 : Nat) : Int)) r) :
  Ev (fun k => aA.l1 k (b : Int) (cE ((l.length * b + 7) / 8) (eZ b l i)) (i : Int) l[i] l (l.length : Int) (i : Int) (b : Int) 0) r := by
 obtain ⟨x, hx, hxb⟩ := qG hf i hi
 have hib : i * b + b ≤ l.length * b := by rw [← Nat.succ_mul]; exact Nat.mul_le_mul_right _ hi
 have hlb : l.length * b ≤ 13194139533312 := Nat.le_trans (Nat.mul_le_mul_left _ hb) (by omega)
 have hV := ou hf i (by omega)
 have h12 : 2 ^ b ≤ 4096 := Nat.pow_le_pow_right (n := 2) (by omega) hb
 have hx12 : x < 4096 := by omega
 have e := Ev.up (g := fun j k => aA.l1 k (b : Int) (cE ((l.length * b + 7) / 8) (eZ b l i + 2 ^ (b * i) * (x % 2 ^ j))) (i : Int) l[i] l (l.length : Int) (i : Int) (b : Int) (j : Int)) (r := r) b ?_ ?_ 0 (by omega)
 ·simpa [Nat.mod_one] using e
 ·intro j hj h'
  refine Ev.step (fun k => ?_) h'
  have n1 : i * b ≤ 9223372036854775807 := by clear hV hx h h12; omega
  have n2 : i * b + j ≤ 9223372036854775807 := by clear hV hx h h12; omega
  have n3 : (i * b + j) / 8 ≤ 9223372036854775807 := by clear hV hx h h12; omega
  have q0 : (i * b + j) / 8 < (l.length * b + 7) / 8 := by clear hV hx h h12; omega
  have q1 : (((i * b + j) / 8 : Nat) : Int) < (((l.length * b + 7) / 8 : Nat) : Int) := Int.ofNat_lt.mpr q0
  have j64 : j ≤ IntKind.i64.bits := by clear hV hx h h12; simp [IntKind.bits]; omega
  have jw := dI j (by clear hV hx h h12; omega)
  have e1 : wrap64 ((wrap64 ((i : Int) * (b : Int))) + (j : Int)) = ((i * b + j : Nat) : Int) := by
   have e0 : (i : Int) * (b : Int) = ((i * b : Nat) : Int) := by simp
   rw [e0, iR (i * b) n1]
   exact iR (i * b + j) n2
  have e2 : wrap64 (((i * b + j) / 8 : Nat) : Int) = (((i * b + j) / 8 : Nat) : Int) := iR _ n3
  have e3 : Go.bits .and .i64 ((x / 2 ^ j : Nat) : Int) 1 = ((x / 2 ^ j % 2 : Nat) : Int) := po _ (Nat.lt_of_le_of_lt (Nat.div_le_self _ _) (Nat.lt_trans hx12 (by decide)))
  have e4 := pA ((l.length * b + 7) / 8) (eZ b l i) b i j x hV
  simp only [aA.l1]
  rw [e1, qt, tq, e2, Fa (Int.ofNat_lt.mpr hj), Fa (Int.natCast_nonneg _), Fa (by rw [fp]; exact q1), Fa (Int.natCast_nonneg _), Fa (Int.natCast_nonneg _), Int.toNat_natCast,
   dA _ _ (by rw [fp]; exact q0), fg, hx, lQ .i64 x j j64, e3, e4, jw]
 ·refine Ev.step (f := fun k => aA.l0 k (b : Int) (cE ((l.length * b + 7) / 8) (eZ b l (i + 1))) l (l.length : Int) ((i + 1 : Nat) : Int)) (fun k => ?_) h
  simp only [aA.l1]
  rw [Ga (by omega), dI i (by omega), kM b l i hi, Nat.mod_eq_of_lt hxb, hx, Int.toNat_natCast]
theorem jl (l : List Int) (b : Nat) (hb1 : 1 ≤ b) (hb : b ≤ 12) (hl : l.length ≤ 1099511627776) (hf : l.all (gY b) = true) : Ev (fun k => aA.f k l (b : Int)) (dX b l) := by
 have hlb : l.length * b ≤ 13194139533312 := Nat.le_trans (Nat.mul_le_mul_left _ hb) (by omega)
 have e1 : wrap64 (Int.tdiv (wrap64 ((wrap64 ((l.length : Int) * (b : Int))) + 7)) 8) = (((l.length * b + 7) / 8 : Nat) : Int) := by
  have e0 : (l.length : Int) * (b : Int) = ((l.length * b : Nat) : Int) := by simp
  rw [e0, iR (l.length * b) (by omega), show ((l.length * b : Nat) : Int) + 7 = ((l.length * b + 7 : Nat) : Int) by omega, iR (l.length * b + 7) (by omega), qt, iR ((l.length * b + 7) / 8) (by omega)]
 unfold aA.f dX
 rw [e1, Int.toNat_natCast]
 refine Ev.pos (by omega) (Ev.pos (by omega) ?_)
 rw [← px]
 have h := Ev.up (g := fun i k => aA.l0 k (b : Int) (cE ((l.length * b + 7) / 8) (eZ b l i)) l (l.length : Int) (i : Int)) (r := strOfNums (cE ((l.length * b + 7) / 8) (eZ b l l.length))) l.length ?_ ?_ 0 (by omega)
 ·simpa [eZ, gK, pd] using h
 ·intro i hi h
  refine Ev.step (fun k => ?_) (l8 l b hb1 hb hl hf i hi h)
  simp only [aA.l0]
  rw [Fa (by omega), Fa (by omega), Fa (by omega), dA l i hi]
 ·refine Ev.step (f := fun _ => some (strOfNums (cE ((l.length * b + 7) / 8) (eZ b l l.length)))) (fun k => ?_) (Ev.now _)
  simp only [aA.l0]
  rw [Ga (by omega)]
theorem tc {α : Type} {p : α → Bool} {l : List α} (h : ¬ l.all p = true) : ∃ i, ∃ h : i < l.length, p l[i] = false := by
 rw [List.all_eq_true] at h
 simp only [Classical.not_forall] at h
 obtain ⟨x, hx, hp⟩ := h
 obtain ⟨i, hi, rfl⟩ := List.mem_iff_getElem.mp hx
 exact ⟨i, hi, by simpa using hp⟩
set_option maxHeartbeats 1000000 in
theorem nY (l : List Int) (b : Nat) (hb1 : 1 ≤ b) (hb : b ≤ 12) (hl : l.length ≤ 1099511627776) (hf : l.all (gY b) = true) (i : Nat) (hi : i < l.length) {r : ByteArray × Bool}
  (h : Ev (fun k => aW.l1 k l (b : Int) (cE (b * (i + 1) / 8) (eZ b l (i + 1))) ((eZ b l (i + 1) / 256 ^ (b * (i + 1) / 8) : Nat) : Int) ((b * (i + 1) % 8 : Nat) : Int) ((i + 1 : Nat) : Int)) r) :
  Ev (fun k => aW.l2 k l (b : Int) (cE (b * i / 8) (eZ b l (i + 1))) ((eZ b l (i + 1) / 256 ^ (b * i / 8) : Nat) : Int) ((b * (i + 1) - 8 * (b * i / 8) : Nat) : Int) (i : Int)) r := by
 have hlb : b * l.length ≤ 13194139533312 := Nat.le_trans (Nat.mul_le_mul_right _ hb) (by omega)
 have hib : b * (i + 1) ≤ b * l.length := Nat.mul_le_mul_left _ hi
 have hbs : b * (i + 1) = b * i + b := Nat.mul_succ b i
 have hV := ou hf (i + 1) (by omega)
 refine Ev.upFrom (g := fun p k => aW.l2 k l (b : Int) (cE p (eZ b l (i + 1))) ((eZ b l (i + 1) / 256 ^ p : Nat) : Int) ((b * (i + 1) - 8 * p : Nat) : Int) (i : Int)) (b * i / 8) (b * (i + 1) / 8) ?_ ?_ (by omega)
 ·intro p hp0 hp h'
  refine Ev.step (fun k => ?_) h'
  have hsmall : eZ b l (i + 1) / 256 ^ p < 2 ^ 20 := by
   rw [Nat.div_lt_iff_lt_mul (Nat.pow_pos (by omega)), gX, ← Nat.pow_add]
   exact Nat.lt_of_lt_of_le hV (Nat.pow_le_pow_right (by omega) (by omega))
  have e1 : Int.tmod ((eZ b l (i + 1) / 256 ^ p : Nat) : Int) 256 % 256 = ((eZ b l (i + 1) / 256 ^ p % 256 : Nat) : Int) := by
   rw [show (256 : Int) = ((256 : Nat) : Int) from rfl, mq]; omega
  have e2 : wrap64 (Int.tdiv ((eZ b l (i + 1) / 256 ^ p : Nat) : Int) 256) = ((eZ b l (i + 1) / 256 ^ (p + 1) : Nat) : Int) := by
   rw [show (256 : Int) = ((256 : Nat) : Int) from rfl, mz, Nat.pow_succ, ← Nat.div_div_eq_div_mul, iR (eZ b l (i + 1) / 256 ^ p / 256) (by omega)]
  simp only [aW.l2]
  rw [Fa (by omega), Fa (by rw [fp]; omega), e1, e2, lz, w64 (by omega) (by omega)]
  congr 1
  omega
 ·refine Ev.step (fun k => ?_) h
  simp only [aW.l2]
  rw [Ga (by omega), dI i (by omega)]
  congr 1
  omega
theorem kj (l : List Int) (b : Int) (hl : l.length ≤ 1099511627776) : Ev (fun k => aW.f k l b) (nG l b) := by
 unfold aW.f nG
 simp only [f8, Option.bind_some]
 by_cases hb : 1 ≤ b ∧ b ≤ 12
 ·refine Ev.pos (by simpa using hb) ?_
  obtain ⟨c, rfl⟩ : ∃ c : Nat, b = (c : Int) := ⟨b.toNat, by omega⟩
  rw [Int.toNat_natCast]
  have h12 : (2 : Int) ^ c ≤ 4096 := by
   have : ((2 ^ c : Nat) : Int) ≤ ((2 ^ 12 : Nat) : Int) := Int.ofNat_le.mpr (Nat.pow_le_pow_right (by omega) (by omega))
   simpa using this
  have h0 := oE c
  have es : wrap64 ((2 : Int) ^ c - 1) = 2 ^ c - 1 := w64 (by omega) (by omega)
  have e2 := fG (c : Int) (by omega)
  rw [Int.toNat_natCast] at e2
  by_cases hf : l.all (gY c) = true
  ·rw [Fa ⟨hb, hf⟩]
   refine Ev.up (g := fun i k => aW.l0 k l (c : Int) (i : Int)) (r := (dX c l, true)) l.length ?_ ?_ 0 (by omega)
   ·intro i hi h
    refine Ev.step (f := fun k => (ax.f k (c : Int)).bind fun t148 => ((aZ.f (rd l (i : Int)) 0 (wrap64 (t148 - 1))).bind fun t149 => (if t149 = true then (aW.l0 k l (c : Int) (wrap64 ((i : Int) + 1))) else (some ((⟨#[]⟩ : ByteArray), false))))) (fun k => ?_) ?_
    ·simp only [aW.l0]
     rw [Fa (by omega), Fa (by omega)]
    ·refine Ev.bind e2 ?_
     simp only [es, f8, Option.bind_some]
     rw [dA l i hi, dI i (by omega)]
     exact Ev.pos (List.all_eq_true.mp hf _ (List.getElem_mem hi)) h
   ·refine Ev.step (f := fun k => aW.l1 k l (c : Int) (([] : List Int)) 0 0 0) (fun k => ?_) ?_
    ·simp only [aW.l0]
     rw [Ga (by omega)]
    ·have key := Ev.up (g := fun i k => aW.l1 k l (c : Int) (cE (c * i / 8) (eZ c l i)) ((eZ c l i / 256 ^ (c * i / 8) : Nat) : Int) ((c * i % 8 : Nat) : Int) (i : Int)) (r := (dX c l, true)) l.length ?_ ?_ 0 (by omega)
     ·simpa [eZ, gK, cE] using key
     ·intro i hi h
      have hlb : c * l.length ≤ 13194139533312 := Nat.le_trans (Nat.mul_le_mul_right l.length (show c ≤ 12 by omega)) (by omega)
      have hib : c * (i + 1) ≤ c * l.length := Nat.mul_le_mul_left _ hi
      have hbs : c * (i + 1) = c * i + c := Nat.mul_succ c i
      obtain ⟨x, hx, hxb⟩ := qG hf i hi
      have hV := ou hf i (by omega)
      have hq : eZ c l i / 256 ^ (c * i / 8) < 2 ^ (c * i % 8) := by
       rw [Nat.div_lt_iff_lt_mul (Nat.pow_pos (by omega)), gX, ← Nat.pow_add, show c * i % 8 + 8 * (c * i / 8) = c * i by omega]; exact hV
      have h128 : 2 ^ (c * i % 8) ≤ 128 := Nat.pow_le_pow_right (n := 2) (by omega) (show c * i % 8 ≤ 7 by omega)
      have h4096 : 2 ^ c ≤ 4096 := Nat.pow_le_pow_right (n := 2) (by omega) (show c ≤ 12 by omega)
      have hxc : x * 2 ^ (c * i % 8) ≤ 4096 * 128 := Nat.mul_le_mul (by omega) h128
      have ed : eZ c l (i + 1) / 256 ^ (c * i / 8) = eZ c l i / 256 ^ (c * i / 8) + x * 2 ^ (c * i % 8) := by
       have : 2 ^ (c * i) = 256 ^ (c * i / 8) * 2 ^ (c * i % 8) := by rw [gX, ← Nat.pow_add]; congr 1; omega
       rw [kM c l i hi, hx, Int.toNat_natCast, this, Nat.mul_assoc, Nat.add_mul_div_left _ _ (Nat.pow_pos (by omega)), Nat.mul_comm x]
      have eb : cE (c * i / 8) (eZ c l i) = cE (c * i / 8) (eZ c l (i + 1)) := by
       apply List.ext_getElem
       ·simp [cE]
       ·intro j h1 h2
        rw [fg, fg]
        congr 1
        have hj : j < c * i / 8 := by simpa [cE] using h1
        rw [kM c l i hi]
        obtain ⟨d, hd⟩ : ∃ d, c * i = 8 * (j + 1) + d := ⟨c * i - 8 * (j + 1), by omega⟩
        have : 2 ^ (c * i) * l[i].toNat = 256 ^ j * (256 * (2 ^ d * l[i].toNat)) := by
         rw [hd, Nat.pow_add, ← gX, Nat.pow_succ]; simp only [Nat.mul_assoc]
        rw [this, Nat.add_mul_div_left _ _ (Nat.pow_pos (by omega)), Nat.add_mul_mod_self_left]
      have e3 := fG ((c * i % 8 : Nat) : Int) (by omega)
      rw [Int.toNat_natCast] at e3
      refine Ev.step (f := fun k => (ax.f k ((c * i % 8 : Nat) : Int)).bind fun t157 => (aW.l2 k l (c : Int) (cE (c * i / 8) (eZ c l i)) (wrap64 (((eZ c l i / 256 ^ (c * i / 8) : Nat) : Int) + (wrap64 ((rd l (i : Int)) * t157)))) (wrap64 (((c * i % 8 : Nat) : Int) + (c : Int))) (i : Int))) (fun k => ?_) (Ev.bind e3 ?_)
      ·simp only [aW.l1]
       rw [Fa (by omega), Fa (by omega)]
      ·have h2 := nY l c (by omega) (by omega) hl hf i hi h
       have em : (x : Int) * 2 ^ (c * i % 8) = ((x * 2 ^ (c * i % 8) : Nat) : Int) := by simp
       rw [dA l i hi, hx, em, iR (x * 2 ^ (c * i % 8)) (by omega), eb, w64 (x := ((eZ c l i / 256 ^ (c * i / 8) : Nat) : Int) + ((x * 2 ^ (c * i % 8) : Nat) : Int)) (by have hA := Int.natCast_nonneg (eZ c l i / 256 ^ (c * i / 8)); have hB := Int.natCast_nonneg (x * 2 ^ (c * i % 8)); omega) (by omega), w64 (x := ((c * i % 8 : Nat) : Int) + (c : Int)) (by omega) (by omega)]
       rw [ed] at h2
       refine Ev.congr (fun k => ?_) h2
       congr 1
       omega
     ·have hlb : c * l.length ≤ 13194139533312 := Nat.le_trans (Nat.mul_le_mul_right l.length (show c ≤ 12 by omega)) (by omega)
      have hmc : l.length * c = c * l.length := Nat.mul_comm _ _
      unfold dX
      rw [← px]
      by_cases h8 : c * l.length % 8 = 0
      ·refine Ev.step (f := fun _ => some (strOfNums (cE (c * l.length / 8) (eZ c l l.length)), true)) (fun k => ?_) ?_
       ·simp only [aW.l1]
        rw [Ga (by omega), Ga (by omega)]
       ·rw [show (l.length * c + 7) / 8 = c * l.length / 8 by omega]; exact Ev.now _
      ·refine Ev.step (f := fun _ => some (strOfNums (cE (c * l.length / 8 + 1) (eZ c l l.length)), true)) (fun k => ?_) ?_
       ·simp only [aW.l1]
        rw [Ga (by omega), Fa (by omega), Fa (by rw [fp]; omega), ← lz]
        rfl
       ·rw [show (l.length * c + 7) / 8 = c * l.length / 8 + 1 by omega]; exact Ev.now _
  ·rw [Ga (fun h => hf h.2)]
   obtain ⟨n, hn, hbad⟩ := tc hf
   have step : ∀ i, (hi : i < l.length) → ∀ {r : ByteArray × Bool}, Ev (fun k => if gY c l[i] = true then aW.l0 k l (c : Int) ((i + 1 : Nat) : Int) else some ((⟨#[]⟩ : ByteArray), false)) r → Ev (fun k => aW.l0 k l (c : Int) (i : Int)) r := by
    intro i hi r h
    refine Ev.step (f := fun k => (ax.f k (c : Int)).bind fun t148 => ((aZ.f (rd l (i : Int)) 0 (wrap64 (t148 - 1))).bind fun t149 => (if t149 = true then (aW.l0 k l (c : Int) (wrap64 ((i : Int) + 1))) else (some ((⟨#[]⟩ : ByteArray), false))))) (fun k => ?_) ?_
    ·simp only [aW.l0]
     rw [Fa (by omega), Fa (by omega)]
    ·refine Ev.bind e2 ?_
     simp only [es, f8, Option.bind_some]
     rw [dA l i hi, dI i (by omega)]
     exact h
   refine Ev.up (g := fun i k => aW.l0 k l (c : Int) (i : Int)) n ?_ (step n hn (Ev.neg (by rw [hbad]; decide) (Ev.now _))) 0 (by omega)
   intro i hi h
   refine step i (by omega) ?_
   by_cases hfi : gY c (l[i]'(by omega)) = true
   ·exact Ev.pos hfi h
   ·exact Ev.neg hfi (Ev.now _)
 ·rw [Ga (fun h => hb h.1)]
  exact Ev.neg (by simpa using hb) (Ev.now _)
def dg (b S n : Nat) : List Int := (List.range n).map fun i => ((S / 2 ^ (b * i) % 2 ^ b : Nat) : Int)
theorem fu (b S n : Nat) : (dg b S n).length = n := by simp [dg]
theorem pZ (b S n i : Nat) (h : i < (dg b S n).length) : (dg b S n)[i] = ((S / 2 ^ (b * i) % 2 ^ b : Nat) : Int) := by simp [dg]
theorem lr (b S n : Nat) : dg b S (n + 1) = dg b S n ++ [((S / 2 ^ (b * n) % 2 ^ b : Nat) : Int)] := by simp [dg, List.range_succ]
theorem pQ (b S n : Nat) : (dg b S n).all (gY b) = true := by
 rw [List.all_eq_true]
 intro x hx
 obtain ⟨i, _, rfl⟩ := List.mem_map.mp hx
 refine ya ⟨by omega, ?_⟩
 have h1 : S / 2 ^ (b * i) % 2 ^ b < 2 ^ b := Nat.mod_lt _ (Nat.two_pow_pos b)
 have h3 : ((2 ^ b : Nat) : Int) = (2 : Int) ^ b := by simp
 omega
theorem pJ (b S n : Nat) : jf (dg b S n) = (List.range n).map fun i => S / 2 ^ (b * i) % 2 ^ b := by
 unfold jf dg
 rw [List.map_map]
 exact List.map_congr_left fun i _ => Int.toNat_natCast _
theorem pY (b S n : Nat) : gK b (jf (dg b S n)) = S % 2 ^ (b * n) := by rw [pJ, pp]
def dY (s : ByteArray) (b n : Int) : List Int × Bool :=
 if (1 ≤ b ∧ b ≤ 12) ∧ (0 ≤ n ∧ n ≤ 1000) ∧ s.size = (n.toNat * b.toNat + 7) / 8 then
  if dy s < 2 ^ (b.toNat * n.toNat) then (dg b.toNat (dy s) n.toNat, true) else ([], false)
 else ([], false)
theorem pk (S m u : Nat) (h : u ≤ m) : S % 2 ^ m / 2 ^ u = S / 2 ^ u % 2 ^ (m - u) := by
 rw [show (2 : Nat) ^ m = 2 ^ u * 2 ^ (m - u) by rw [← Nat.pow_add]; congr 1; omega, Nat.mod_mul_right_div_self]
theorem oH (S m u b : Nat) (h : u + b ≤ m) : S % 2 ^ m / 2 ^ u % 2 ^ b = S / 2 ^ u % 2 ^ b := by
 rw [pk S m u (by omega), Nat.mod_mod_of_dvd _ (Nat.pow_dvd_pow 2 (by omega))]
theorem rU {n b : Nat} (hn : n ≤ 1000) (hb : b ≤ 12) : wrap64 (Int.tdiv (wrap64 ((wrap64 ((n : Int) * (b : Int))) + 7)) 8) = (((n * b + 7) / 8 : Nat) : Int) := by
 have h : n * b ≤ 1000 * 12 := Nat.mul_le_mul hn hb
 have e0 : (n : Int) * (b : Int) = ((n * b : Nat) : Int) := by simp
 rw [e0, iR (n * b) (by omega), show ((n * b : Nat) : Int) + 7 = ((n * b + 7 : Nat) : Int) by omega, iR (n * b + 7) (by omega), qt, iR ((n * b + 7) / 8) (by omega)]
set_option maxHeartbeats 1000000 in
theorem mS (s : ByteArray) (b n : Nat) (hb1 : 1 ≤ b) (hb : b ≤ 12) (hn : n ≤ 1000) (hs : s.size = (n * b + 7) / 8) (i : Nat) (hi : i < n) {r : List Int × Bool}
  (h : Ev (fun k => aC.l0 k s (b : Int) (n : Int) (dg b (dy s) (i + 1)) ((dy s % 2 ^ (8 * ((b * (i + 1) + 7) / 8)) / 2 ^ (b * (i + 1)) : Nat) : Int) ((8 * ((b * (i + 1) + 7) / 8) - b * (i + 1) : Nat) : Int) (((b * (i + 1) + 7) / 8 : Nat) : Int) ((i + 1 : Nat) : Int)) r) :
  Ev (fun k => aC.l1 k s (b : Int) (n : Int) (dg b (dy s) i) ((dy s % 2 ^ (8 * ((b * i + 7) / 8)) / 2 ^ (b * i) : Nat) : Int) ((8 * ((b * i + 7) / 8) - b * i : Nat) : Int) (((b * i + 7) / 8 : Nat) : Int) (i : Int)) r := by
 have hbn : b * n ≤ 12 * 1000 := Nat.mul_le_mul hb hn
 have hib : b * (i + 1) ≤ b * n := Nat.mul_le_mul_left _ hi
 have hbs : b * (i + 1) = b * i + b := Nat.mul_succ b i
 have hmc : n * b = b * n := Nat.mul_comm _ _
 have e2 := fG (b : Int) (by omega)
 rw [Int.toNat_natCast] at e2
 have small : ∀ p, p ≤ (b * (i + 1) + 7) / 8 → dy s % 2 ^ (8 * p) / 2 ^ (b * i) < 2 ^ 20 := by
  intro p hp
  rw [Nat.div_lt_iff_lt_mul (Nat.two_pow_pos _), ← Nat.pow_add]
  exact Nat.lt_of_lt_of_le (Nat.mod_lt _ (Nat.two_pow_pos _)) (Nat.pow_le_pow_right (by omega) (by omega))
 refine Ev.upFrom (g := fun p k => aC.l1 k s (b : Int) (n : Int) (dg b (dy s) i) ((dy s % 2 ^ (8 * p) / 2 ^ (b * i) : Nat) : Int) ((8 * p - b * i : Nat) : Int) (p : Int) (i : Int)) ((b * i + 7) / 8) ((b * (i + 1) + 7) / 8) ?_ ?_ (by omega)
 ·intro p hp0 hp h'
  have e3 := fG ((8 * p - b * i : Nat) : Int) (by omega)
  rw [Int.toNat_natCast] at e3
  refine Ev.step (f := fun k => (ax.f k ((8 * p - b * i : Nat) : Int)).bind fun t193 => (aC.l1 k s (b : Int) (n : Int) (dg b (dy s) i) (wrap64 (((dy s % 2 ^ (8 * p) / 2 ^ (b * i) : Nat) : Int) + (wrap64 ((wrap64 (bt s (p : Int))) * t193)))) (wrap64 (((8 * p - b * i : Nat) : Int) + 8)) (wrap64 ((p : Int) + 1)) (i : Int))) (fun k => ?_) (Ev.bind e3 ?_)
  ·simp only [aC.l1]
   rw [Fa (by omega), Fa (by omega), Fa (by omega)]
  ·have hsm := small (p + 1) (by omega)
   have eS : dy s % 2 ^ (8 * (p + 1)) / 2 ^ (b * i) = dy s % 2 ^ (8 * p) / 2 ^ (b * i) + dy s / 256 ^ p % 256 * 2 ^ (8 * p - b * i) := by
    rw [show 8 * (p + 1) = 8 * p + 8 by omega, Nat.pow_add, Nat.mod_mul, show (2 : Nat) ^ (8 * p) = 2 ^ (b * i) * 2 ^ (8 * p - b * i) by rw [← Nat.pow_add]; congr 1; omega]
    rw [Nat.mul_assoc (2 ^ (b * i)), Nat.add_mul_div_left _ _ (Nat.two_pow_pos _), ← Nat.pow_add, show b * i + (8 * p - b * i) = 8 * p by omega, ← gX, Nat.mul_comm (2 ^ (8 * p - b * i))]
   rw [n9 s p (by omega), iR (dy s / 256 ^ p % 256) (by omega)]
   have em : ((dy s / 256 ^ p % 256 : Nat) : Int) * 2 ^ (8 * p - b * i) = ((dy s / 256 ^ p % 256 * 2 ^ (8 * p - b * i) : Nat) : Int) := by simp
   have hA := Int.natCast_nonneg (dy s % 2 ^ (8 * p) / 2 ^ (b * i))
   have hB := Int.natCast_nonneg (dy s / 256 ^ p % 256 * 2 ^ (8 * p - b * i))
   rw [em, iR (dy s / 256 ^ p % 256 * 2 ^ (8 * p - b * i)) (by omega), dI p (by omega)]
   rw [w64 (x := ((dy s % 2 ^ (8 * p) / 2 ^ (b * i) : Nat) : Int) + ((dy s / 256 ^ p % 256 * 2 ^ (8 * p - b * i) : Nat) : Int)) (by omega) (by omega), w64 (x := ((8 * p - b * i : Nat) : Int) + 8) (by omega) (by omega)]
   rw [eS] at h'
   refine Ev.congr (fun k => ?_) h'
   congr 1
   omega
 ·have hsm := small ((b * (i + 1) + 7) / 8) (by omega)
  have h12 : (2 : Int) ^ b ≤ 4096 := by
   have : ((2 ^ b : Nat) : Int) ≤ ((2 ^ 12 : Nat) : Int) := Int.ofNat_le.mpr (Nat.pow_le_pow_right (by omega) (by omega))
   simpa using this
  have h0 := oE b
  refine Ev.step (f := fun k => ((ax.f k (b : Int)).bind fun t194 => (if t194 = 0 then (none) else (if (dg b (dy s) i).length < 17592186044416 then ((ax.f k (b : Int)).bind fun t198 => (if t198 = 0 then (none) else (aC.l0 k s (b : Int) (n : Int) (dg b (dy s) i ++ [Int.tmod ((dy s % 2 ^ (8 * ((b * (i + 1) + 7) / 8)) / 2 ^ (b * i) : Nat) : Int) t194]) (wrap64 (Int.tdiv ((dy s % 2 ^ (8 * ((b * (i + 1) + 7) / 8)) / 2 ^ (b * i) : Nat) : Int) t198)) (wrap64 (((8 * ((b * (i + 1) + 7) / 8) - b * i : Nat) : Int) - (b : Int))) ((((b * (i + 1) + 7) / 8 : Nat) : Int)) (wrap64 ((i : Int) + 1))))) else (none))))) (fun k => ?_) ?_
  ·simp only [aC.l1]
   rw [Ga (by omega)]
  ·refine Ev.bind e2 (Ev.neg (by omega) (Ev.pos (by rw [fu]; omega) (Ev.bind e2 (Ev.neg (by omega) ?_))))
   have ec : (2 : Int) ^ b = ((2 ^ b : Nat) : Int) := by simp
   rw [ec, mq, mz, oH _ _ _ _ (by omega), ← lr, Nat.div_div_eq_div_mul, ← Nat.pow_add, ← hbs, iR (dy s % 2 ^ (8 * ((b * (i + 1) + 7) / 8)) / 2 ^ (b * (i + 1))) (by
    have : dy s % 2 ^ (8 * ((b * (i + 1) + 7) / 8)) / 2 ^ (b * (i + 1)) ≤ dy s % 2 ^ (8 * ((b * (i + 1) + 7) / 8)) / 2 ^ (b * i) := Nat.div_le_div_left (Nat.pow_le_pow_right (by omega) (by omega)) (Nat.two_pow_pos _)
    omega), w64 (x := ((8 * ((b * (i + 1) + 7) / 8) - b * i : Nat) : Int) - (b : Int)) (by omega) (by omega), dI i (by omega)]
   refine Ev.congr (fun k => ?_) h
   congr 1
   omega
theorem jp (s : ByteArray) (b n : Int) : Ev (fun k => aC.f k s b n) (dY s b n) := by
 unfold aC.f dY
 simp only [f8, Option.bind_some]
 have bad : Ev (fun k => aC.j0 k s b n [] true) (([] : List Int), false) := by
  refine Ev.step (f := fun _ => some ([], false)) (fun k => ?_) (Ev.now _)
  simp only [aC.j0, if_true]
 by_cases hb : 1 ≤ b ∧ b ≤ 12
 ·refine Ev.pos (by simpa using hb) ?_
  by_cases hn : 0 ≤ n ∧ n ≤ 1000
  ·refine Ev.pos (by simpa using hn) ?_
   obtain ⟨c, rfl⟩ : ∃ c : Nat, b = (c : Int) := ⟨b.toNat, by omega⟩
   obtain ⟨m, rfl⟩ : ∃ c : Nat, n = (c : Int) := ⟨n.toNat, by omega⟩
   rw [Int.toNat_natCast, Int.toNat_natCast, rU (by omega) (by omega)]
   by_cases hs : s.size = (m * c + 7) / 8
   ·rw [Fa ⟨hb, hn, hs⟩, show (((s.size : Int) != (((m * c + 7) / 8 : Nat) : Int)) = false) by rw [bne_eq_false_iff_eq, hs]]
    have hmc : m * c = c * m := Nat.mul_comm _ _
    refine Ev.step (f := fun k => aC.l0 k s (c : Int) (m : Int) [] 0 0 0 0) (fun k => ?_) ?_
    ·simp only [aC.j0]
     rw [Ga (by decide)]
    ·have key := Ev.up (g := fun i k => aC.l0 k s (c : Int) (m : Int) (dg c (dy s) i) ((dy s % 2 ^ (8 * ((c * i + 7) / 8)) / 2 ^ (c * i) : Nat) : Int) ((8 * ((c * i + 7) / 8) - c * i : Nat) : Int) (((c * i + 7) / 8 : Nat) : Int) (i : Int)) (r := if dy s < 2 ^ (c * m) then (dg c (dy s) m, true) else ([], false)) m ?_ ?_ 0 (by omega)
     ·simpa [dg, Nat.mod_one] using key
     ·intro i hi h
      refine Ev.step (fun k => ?_) (mS s c m (by omega) (by omega) (by omega) hs i hi h)
      simp only [aC.l0]
      rw [Fa (by omega)]
     ·have hlt := lX s
      rw [gX, hs, hmc] at hlt
      have e1 : dy s % 2 ^ (8 * ((c * m + 7) / 8)) = dy s := Nat.mod_eq_of_lt hlt
      by_cases hq : dy s < 2 ^ (c * m)
      ·rw [Fa hq]
       refine Ev.step (f := fun _ => some (dg c (dy s) m, true)) (fun k => ?_) (Ev.now _)
       simp only [aC.l0]
       rw [Ga (by omega), Fa (by rw [e1, Nat.div_eq_of_lt hq]; rfl)]
      ·rw [Ga hq]
       refine Ev.step (f := fun _ => some ([], false)) (fun k => ?_) (Ev.now _)
       simp only [aC.l0]
       have h2 : 0 < dy s / 2 ^ (c * m) := Nat.div_pos (by omega) (Nat.two_pow_pos _)
       rw [Ga (by omega), Ga (by rw [e1]; omega)]
   ·rw [Ga (fun h => hs h.2.2), show (((s.size : Int) != (((m * c + 7) / 8 : Nat) : Int)) = true) by rw [bne_iff_ne]; omega]
    exact bad
  ·rw [Ga (fun h => hn h.2.1)]
   exact Ev.neg (by simpa using hn) bad
 ·rw [Ga (fun h => hb h.1)]
  exact Ev.neg (by simpa using hb) bad
theorem pR (a t b : Nat) (ha : a < 2 ^ t) (ht : t ≤ 60) (hb : b ≤ 1) : Go.bits .or .i64 (a : Int) ((b * 2 ^ t : Nat) : Int) = ((a + b * 2 ^ t : Nat) : Int) := by
 have h7 : 2 ^ t ≤ 2 ^ 60 := Nat.pow_le_pow_right (n := 2) (by omega) ht
 have hb2 : b * 2 ^ t ≤ 2 ^ t := by
  have := Nat.mul_le_mul_right (2 ^ t) hb
  omega
 rw [(bits_nat .i64 62 (by decide) (fun n h0 h1 => by rw [IntKind.wrap_i64]; omega) a (b * 2 ^ t) (by omega) (by omega)).2, Nat.or_comm, Nat.mul_comm b, ← Nat.two_pow_add_eq_or_of_lt ha b, Nat.add_comm]
theorem sF (S m : Nat) : S / 256 ^ (m / 8) % 256 / 2 ^ (m % 8) % 2 = S / 2 ^ m % 2 := by
 have h1 : (256 : Nat) = 2 ^ (m % 8) * 2 ^ (8 - m % 8) := by rw [← Nat.pow_add, show m % 8 + (8 - m % 8) = 8 by omega]
 have h2 : (2 : Nat) ^ (8 - m % 8) = 2 * 2 ^ (7 - m % 8) := by rw [show 8 - m % 8 = (7 - m % 8) + 1 by omega, Nat.pow_succ, Nat.mul_comm]
 conv => lhs; rw [show S / 256 ^ (m / 8) % 256 = S / 256 ^ (m / 8) % (2 ^ (m % 8) * 2 ^ (8 - m % 8)) by rw [← h1]]
 rw [Nat.mod_mul_right_div_self, h2, Nat.mod_mul_right_mod, Nat.div_div_eq_div_mul, gX, ← Nat.pow_add, show 8 * (m / 8) + m % 8 = m by omega]
theorem uw (i c j : Nat) (h : c * i + j ≤ 4611686018427387904) : wrap64 ((wrap64 ((i : Int) * (c : Int))) + (j : Int)) = ((c * i + j : Nat) : Int) := by
 have e0 : (i : Int) * (c : Int) = ((c * i : Nat) : Int) := by rw [Nat.mul_comm]; simp
 rw [e0, iR (c * i) (by omega)]
 exact iR (c * i + j) (by omega)
theorem pB (S b i j : Nat) (hj : j ≤ 12) :
  Go.bits .or .i64 ((S / 2 ^ (b * i) % 2 ^ j : Nat) : Int) (shl .i64 (wrap64 (Go.bits .and .u8 (shr .u8 ((S / 256 ^ ((b * i + j) / 8) % 256 : Nat) : Int) (((b * i + j) % 8 : Nat) : Int)) 1)) (j : Int)) = ((S / 2 ^ (b * i) % 2 ^ (j + 1) : Nat) : Int) := by
 have e1 : shr .u8 ((S / 256 ^ ((b * i + j) / 8) % 256 : Nat) : Int) (((b * i + j) % 8 : Nat) : Int) = ((S / 256 ^ ((b * i + j) / 8) % 256 / 2 ^ ((b * i + j) % 8) : Nat) : Int) := lQ .u8 _ _ (by simp [IntKind.bits]; omega)
 rw [e1, qm _ (Nat.lt_of_le_of_lt (Nat.div_le_self _ _) (Nat.mod_lt _ (by omega))), sF, kA, Nat.div_div_eq_div_mul, ← Nat.pow_add]
 have hlo : S / 2 ^ (b * i) % 2 ^ j < 2 ^ j := Nat.mod_lt _ (Nat.two_pow_pos j)
 have h12 : 2 ^ j ≤ 4096 := Nat.pow_le_pow_right (n := 2) (by omega) hj
 obtain ⟨u, hu⟩ : ∃ u, S / 2 ^ (b * i + j) % 2 = u := ⟨_, rfl⟩
 have hu1 : u ≤ 1 := by omega
 obtain ⟨q, hq⟩ : ∃ q, S / 2 ^ (b * i) % 2 ^ j = q := ⟨_, rfl⟩
 rw [hu, hq]
 rw [hq] at hlo
 have hb2 : u * 2 ^ j ≤ 4096 := Nat.le_trans (Nat.mul_le_mul_right (2 ^ j) hu1) (by omega)
 have hsh : shl .i64 (u : Int) (j : Int) = ((u * 2 ^ j : Nat) : Int) := by
  rw [oN _ _ (by omega), Int.toNat_natCast]
  have em : (u : Int) * 2 ^ j = ((u * 2 ^ j : Nat) : Int) := by simp
  rw [em, iR (u * 2 ^ j) (by omega)]
 rw [iR u (by omega), hsh, pR q j u hlo (by omega) hu1, Nat.mul_comm u]
theorem f9 (s : ByteArray) (b n : Int) : Ev (fun k => ay.f k s b n) (dY s b n) := by
 unfold ay.f dY
 simp only [nu, Option.bind_some]
 have bad : Ev (fun k => ay.j0 k s b n true) (([] : List Int), false) := by
  refine Ev.step (f := fun _ => some ([], false)) (fun k => ?_) (Ev.now _)
  simp only [ay.j0, if_true]
 by_cases hb : 1 ≤ b ∧ b ≤ 12
 ·refine Ev.pos (by simpa using hb) ?_
  by_cases hn : 0 ≤ n ∧ n ≤ 1000
  ·refine Ev.pos (by simpa using hn) ?_
   obtain ⟨c, rfl⟩ : ∃ c : Nat, b = (c : Int) := ⟨b.toNat, by omega⟩
   obtain ⟨m, rfl⟩ : ∃ c : Nat, n = (c : Int) := ⟨n.toNat, by omega⟩
   rw [Int.toNat_natCast, Int.toNat_natCast, rU (by omega) (by omega)]
   by_cases hs : s.size = (m * c + 7) / 8
   ·rw [Fa ⟨hb, hn, hs⟩, show (((s.size : Int) != (((m * c + 7) / 8 : Nat) : Int)) = false) by rw [bne_eq_false_iff_eq, hs]]
    have hmc : m * c = c * m := Nat.mul_comm _ _
    have hbn : c * m ≤ 12 * 1000 := Nat.mul_le_mul (by omega) (by omega)
    refine Ev.step (f := fun k => ay.l0 k s (c : Int) [] (m : Int) 0) (fun k => ?_) ?_
    ·simp only [ay.j0]
     rw [Ga (by decide)]
    ·refine Ev.up (g := fun i k => ay.l0 k s (c : Int) (dg c (dy s) i) (m : Int) (i : Int)) (r := if dy s < 2 ^ (c * m) then (dg c (dy s) m, true) else ([], false)) m ?_ ?_ 0 (by omega)
     ·intro i hi h
      have hib : c * (i + 1) ≤ c * m := Nat.mul_le_mul_left _ hi
      have hbs : c * (i + 1) = c * i + c := Nat.mul_succ c i
      have hic : i * c = c * i := Nat.mul_comm _ _
      refine Ev.step (f := fun k => ay.l1 k s (c : Int) (dg c (dy s) i) (i : Int) 0 (m : Int) (i : Int) (c : Int) 0) (fun k => ?_) ?_
      ·simp only [ay.l0]
       rw [Fa (by omega)]
      ·have key := Ev.up (g := fun j k => ay.l1 k s (c : Int) (dg c (dy s) i) (i : Int) ((dy s / 2 ^ (c * i) % 2 ^ j : Nat) : Int) (m : Int) (i : Int) (c : Int) (j : Int)) (r := if dy s < 2 ^ (c * m) then (dg c (dy s) m, true) else ([], false)) c ?_ ?_ 0 (by omega)
       ·simpa [Nat.mod_one] using key
       ·intro j hj h'
        refine Ev.step (fun k => ?_) h'
        have n1 : c * i + j ≤ 4611686018427387904 := by omega
        have q0 : (c * i + j) / 8 < s.size := by omega
        have j12 : j ≤ 12 := by omega
        have n3 : (c * i + j) / 8 ≤ 9223372036854775807 := by omega
        have jw := dI j (by omega)
        have e1 := uw i c j n1
        have e2 : wrap64 (((c * i + j) / 8 : Nat) : Int) = (((c * i + j) / 8 : Nat) : Int) := iR _ n3
        have e3 := n9 s ((c * i + j) / 8) q0
        have e4 := pB (dy s) c i j j12
        simp only [ay.l1]
        rw [e1, qt, tq, e2, Fa (Int.ofNat_lt.mpr hj), Fa (Int.natCast_nonneg _), Fa (Int.ofNat_lt.mpr q0), Fa (Int.natCast_nonneg _), Fa (Int.natCast_nonneg _), e3, e4, jw]
       ·refine Ev.step (fun k => ?_) h
        simp only [ay.l1]
        rw [Ga (by omega), Fa (by rw [fu]; omega), dI i (by omega), ← lr]
     ·have hlt := lX s
      have hpk : dX c (dg c (dy s) m) = strOfNums (cE s.size (dy s % 2 ^ (c * m))) := by
       unfold dX
       rw [fu, pY, hs]
      have hp := jl (dg c (dy s) m) c (by omega) (by omega) (by rw [fu]; omega) (pQ _ _ _)
      rw [hpk] at hp
      refine Ev.step (f := fun k => (aA.f k (dg c (dy s) m) (c : Int)).bind fun t125 => (if t125.toList = s.toList then (some (dg c (dy s) m, true)) else (some (([] : List Int), false)))) (fun k => ?_) (Ev.bind hp ?_)
      ·simp only [ay.l0]
       rw [Ga (by omega)]
      ·by_cases hq : dy s < 2 ^ (c * m)
       ·rw [Fa hq]
        refine Ev.pos ?_ (Ev.now _)
        rw [Nat.mod_eq_of_lt hq, jV]
       ·rw [Ga hq]
        refine Ev.neg (fun h => hq ?_) (Ev.now _)
        rw [nP] at h
        have h2 : strOfNums (cE s.size (dy s % 2 ^ (c * m))) = strOfNums (cE s.size (dy s)) := h.trans (jV s).symm
        have h3 := ni (Nat.lt_of_le_of_lt (Nat.mod_le _ _) hlt) hlt h2
        rw [← h3]
        exact Nat.mod_lt _ (Nat.two_pow_pos _)
   ·rw [Ga (fun h => hs h.2.2), show (((s.size : Int) != (((m * c + 7) / 8 : Nat) : Int)) = true) by rw [bne_iff_ne]; omega]
    exact bad
  ·rw [Ga (fun h => hn h.2.1)]
   exact Ev.neg (by simpa using hn) bad
 ·rw [Ga (fun h => hb h.1)]
  exact Ev.neg (by simpa using hb) bad
def cq (l : List Int) : ByteArray := if bU l = true then dX 12 l else ⟨#[]⟩
def df (s : ByteArray) : List Int × Bool := if (dY s 12 256).2 = true ∧ bU (dY s 12 256).1 = true then ((dY s 12 256).1, true) else ([], false)
theorem lh {l : List Int} (h : bU l = true) : l.all (gY 12) = true := by
 rw [List.all_eq_true]
 intro x hx
 have := l6 h hx
 exact ya ⟨this.1, by omega⟩
theorem pH {l : List Int} (h : bU l = true) : nG l 12 = (dX 12 l, true) := by
 unfold nG
 rw [Fa ⟨by omega, lh h⟩]
 rfl
theorem gG (s : ByteArray) (b n : Int) : (dY s b n).1.length ≤ 1000 := by
 unfold dY
 split
 ·split
  ·rw [fu]; omega
  ·simp
 ·simp
theorem iD (s : ByteArray) : Ev (fun k => ct.f k s) (df s) := by
 unfold ct.f df
 refine Ev.bind (jp s 12 256) ?_
 by_cases h : (dY s 12 256).2 = true
 ·refine Ev.pos h (Ev.bind (dx _) ?_)
  by_cases h2 : bU (dY s 12 256).1 = true
  ·refine Ev.pos h2 ?_
   rw [Fa ⟨h, h2⟩]; exact Ev.now _
  ·refine Ev.neg h2 ?_
   rw [Ga (fun h3 => h2 h3.2)]; exact Ev.now _
 ·rw [Ga (fun h3 => h h3.1)]
  exact Ev.neg h (Ev.now _)
theorem iB (s : ByteArray) : Ev (fun k => cv.f k s) (df s) := by
 unfold cv.f df
 refine Ev.bind (f9 s 12 256) ?_
 by_cases h : (dY s 12 256).2 = true
 ·refine Ev.pos h (Ev.bind (dJ _ (by have := gG s 12 256; omega)) ?_)
  by_cases h2 : bU (dY s 12 256).1 = true
  ·refine Ev.pos h2 ?_
   rw [Fa ⟨h, h2⟩]; exact Ev.now _
  ·refine Ev.neg h2 ?_
   rw [Ga (fun h3 => h2 h3.2)]; exact Ev.now _
 ·rw [Ga (fun h3 => h h3.1)]
  exact Ev.neg h (Ev.now _)
theorem g8 (l : List Int) : Ev (fun k => cp.f k l) (cq l) := by
 unfold cp.f cq
 refine Ev.bind (dx l) ?_
 by_cases h : bU l = true
 ·have hl := gv h
  refine Ev.pos h ?_
  have := kj l 12 (by omega)
  rw [pH h] at this
  rw [Fa h]
  exact Ev.bind this (Ev.now _)
 ·rw [Ga h]
  exact Ev.neg h (Ev.now _)
theorem EqQ.pow {x y : Int} (h : EqQ x y) (n : Nat) : EqQ (x ^ n) (y ^ n) := by
 induction n with
 | zero => rw [Int.pow_zero, Int.pow_zero]; exact EqQ.refl _
 | succ n ih => rw [Int.pow_succ, Int.pow_succ]; exact EqQ.mul ih h
theorem j8 (b : Int) (e : Nat) : b ^ e = (b * b) ^ (e / 2) * b ^ (e % 2) := by
 have h1 : ∀ n : Nat, (b * b) ^ n = b ^ (2 * n) := by
  intro n
  induction n with
  | zero => rw [Nat.mul_zero, Int.pow_zero, Int.pow_zero]
  | succ n ih => rw [Int.pow_succ, ih, show 2 * (n + 1) = 2 * n + 1 + 1 by omega, Int.pow_succ, Int.pow_succ, Int.mul_assoc]
 rw [h1, ← Int.pow_add]
 congr 1
 omega
def pw (b : Int) (e : Nat) : Int := b ^ e % 3329
theorem tC (b : Int) (e : Nat) : 0 ≤ pw b e ∧ pw b e ≤ 3328 := fj _
theorem jo {x y : Int} (hx : 0 ≤ x ∧ x ≤ 3328) (hy : 0 ≤ y ∧ y ≤ 3328) : Int.tmod (wrap64 (x * y)) 3329 = x * y % 3329 := by
 have := f7 hx hy
 rw [w64 (x := x * y) (by omega) (by omega), Int.tmod_eq_emod_of_nonneg (by omega)]
theorem jU (e : Nat) (h : e ≤ 1000000000) : wrap64 (Int.tdiv (e : Int) 2) = ((e / 2 : Nat) : Int) := by
 rw [Int.tdiv_eq_ediv_of_nonneg (by omega), w64 (by omega) (by omega)]; rfl
theorem ne (e : Nat) : Int.tmod (e : Int) 2 = ((e % 2 : Nat) : Int) := by
 rw [Int.tmod_eq_emod_of_nonneg (by omega)]; rfl
theorem oD (d : Nat) : ∀ (e : Nat) (b out : Int), e ≤ d → e ≤ 1000000000 → 0 ≤ b ∧ b ≤ 3328 → 0 ≤ out ∧ out ≤ 3328 → Ev (fun k => bG.l0 k b (e : Int) out) (out * b ^ e % 3329) := by
 induction d with
 | zero =>
  intro e b out hd _ hb ho
  obtain rfl : e = 0 := by omega
  refine Ev.step (f := fun _ => some (out * b ^ 0 % 3329)) (fun k => ?_) (Ev.now _)
  simp only [bG.l0]
  rw [Ga (by omega), Int.pow_zero, Int.mul_one, Int.emod_eq_of_lt ho.1 (by omega)]
 | succ d ih =>
  intro e b out hd he hb ho
  by_cases h0 : e = 0
  ·subst h0
   refine Ev.step (f := fun _ => some (out * b ^ 0 % 3329)) (fun k => ?_) (Ev.now _)
   simp only [bG.l0]
   rw [Ga (by omega), Int.pow_zero, Int.mul_one, Int.emod_eq_of_lt ho.1 (by omega)]
  ·by_cases h1 : e % 2 = 1
   ·have h := ih (e / 2) (b * b % 3329) (out * b % 3329) (by omega) (by omega) (fj _) (fj _)
    have e1 : out * b % 3329 * (b * b % 3329) ^ (e / 2) % 3329 = out * b ^ e % 3329 := by
     refine EqQ.eqm ?_
     refine (EqQ.mul (EqQ.mod _) (EqQ.pow (EqQ.mod _) _)).trans (EqQ.of ?_)
     rw [j8 b e, h1, Int.pow_one, Int.mul_assoc, Int.mul_comm b]
    rw [e1] at h
    refine Ev.step (fun k => ?_) h
    simp only [bG.l0]
    rw [Fa (by omega), ne, Fa (by omega), jo hb hb, jo ho hb, jU e he]
   ·have h := ih (e / 2) (b * b % 3329) out (by omega) (by omega) (fj _) ho
    have e1 : out * (b * b % 3329) ^ (e / 2) % 3329 = out * b ^ e % 3329 := by
     refine EqQ.eqm ?_
     refine (EqQ.mul (EqQ.refl _) (EqQ.pow (EqQ.mod _) _)).trans (EqQ.of ?_)
     rw [j8 b e, show e % 2 = 0 by omega, Int.pow_zero, Int.mul_one]
    rw [e1] at h
    refine Ev.step (fun k => ?_) h
    simp only [bG.l0]
    rw [Fa (by omega), ne, Ga (by omega), jo hb hb, jU e he]
theorem nT (d : Nat) : ∀ (e : Nat) (b out : Int), e ≤ d → e ≤ 1000000000 → 0 ≤ b ∧ b ≤ 3328 → 0 ≤ out ∧ out ≤ 3328 → Ev (fun k => bv.l0 k b (e : Int) out) (out * b ^ e % 3329) := by
 induction d with
 | zero =>
  intro e b out hd _ hb ho
  obtain rfl : e = 0 := by omega
  refine Ev.step (f := fun _ => some (out * b ^ 0 % 3329)) (fun k => ?_) (Ev.now _)
  simp only [bv.l0]
  rw [Ga (by omega), Int.pow_zero, Int.mul_one, Int.emod_eq_of_lt ho.1 (by omega)]
 | succ d ih =>
  intro e b out hd he hb ho
  by_cases h0 : e = 0
  ·subst h0
   refine Ev.step (f := fun _ => some (out * b ^ 0 % 3329)) (fun k => ?_) (Ev.now _)
   simp only [bv.l0]
   rw [Ga (by omega), Int.pow_zero, Int.mul_one, Int.emod_eq_of_lt ho.1 (by omega)]
  ·by_cases h1 : e % 2 = 1
   ·have h := ih (e / 2) (b * b % 3329) (out * b % 3329) (by omega) (by omega) (fj _) (fj _)
    have e1 : out * b % 3329 * (b * b % 3329) ^ (e / 2) % 3329 = out * b ^ e % 3329 := by
     refine EqQ.eqm ?_
     refine (EqQ.mul (EqQ.mod _) (EqQ.pow (EqQ.mod _) _)).trans (EqQ.of ?_)
     rw [j8 b e, h1, Int.pow_one, Int.mul_assoc, Int.mul_comm b]
    rw [e1] at h
    refine Ev.step (fun k => ?_) h
    simp only [bv.l0]
    rw [Fa (by omega), ne, Fa (by omega), jo hb hb, jo ho hb, jU e he]
   ·have h := ih (e / 2) (b * b % 3329) out (by omega) (by omega) (fj _) ho
    have e1 : out * (b * b % 3329) ^ (e / 2) % 3329 = out * b ^ e % 3329 := by
     refine EqQ.eqm ?_
     refine (EqQ.mul (EqQ.refl _) (EqQ.pow (EqQ.mod _) _)).trans (EqQ.of ?_)
     rw [j8 b e, show e % 2 = 0 by omega, Int.pow_zero, Int.mul_one]
    rw [e1] at h
    refine Ev.step (fun k => ?_) h
    simp only [bv.l0]
    rw [Fa (by omega), ne, Ga (by omega), jo hb hb, jU e he]
theorem iM (b : Int) (hb : 0 ≤ b ∧ b ≤ 3328) (e : Nat) (he : e ≤ 1000000000) : Ev (fun k => bG.f k b (e : Int)) (pw b e) := by
 unfold bG.f
 simp only [nu, Option.bind_some]
 refine Ev.pos (ya ⟨by omega, by omega⟩) (Ev.then (gA b (by omega) (by omega)) ?_)
 have h := oD e e b 1 (Ca _) he hb (by omega)
 rw [Int.one_mul] at h
 rw [Int.emod_eq_of_lt hb.1 (by omega)]
 exact h
theorem iV (b : Int) (hb : 0 ≤ b ∧ b ≤ 3328) (e : Nat) (he : e ≤ 1000000000) : Ev (fun k => bv.f k b (e : Int)) (pw b e) := by
 unfold bv.f
 simp only [f8, Option.bind_some]
 have hm : Int.tmod b 3329 = b := by rw [Int.tmod_eq_emod_of_nonneg hb.1, Int.emod_eq_of_lt hb.1 (by omega)]
 rw [hm]
 refine Ev.pos (ya ⟨by omega, by omega⟩) (Ev.neg (by omega) ?_)
 have h := nT e e b 1 (Ca _) he hb (by omega)
 rw [Int.one_mul] at h
 refine Ev.step (fun k => ?_) h
 simp only [bv.j0]
/-- The first i of seven bits, turned around. -/
def t7s (n : Nat) : Nat → Nat
 | 0 => 0
 | i + 1 => 2 * t7s n i + n / 2 ^ i % 2
theorem rB (n i : Nat) : t7s n i < 2 ^ i := by
 induction i with
 | zero => simp [t7s]
 | succ i ih => simp only [t7s, Nat.pow_succ]; omega
theorem na (n : Nat) : t7s n 7 < 128 := rB n 7
theorem t8 (n i : Nat) (h : i ≤ 7) : t7s n i ≤ 128 := by
 have h1 := rB n i
 have h2 : 2 ^ i ≤ 2 ^ 7 := Nat.pow_le_pow_right (by omega) h
 omega
theorem nz (n i : Nat) (h : i ≤ 7) : wrap64 ((wrap64 (2 * ((t7s n i : Nat) : Int))) + ((n / 2 ^ i % 2 : Nat) : Int)) = ((t7s n (i + 1) : Nat) : Int) := by
 have h1 := t8 n i h
 have h2 : n / 2 ^ i % 2 ≤ 1 := by omega
 obtain ⟨u, hu⟩ : ∃ u, n / 2 ^ i % 2 = u := ⟨_, rfl⟩
 obtain ⟨v, hv⟩ : ∃ v, t7s n i = v := ⟨_, rfl⟩
 simp only [t7s]
 rw [hu] at h2 ⊢
 rw [hv] at h1 ⊢
 rw [w64 (x := 2 * (v : Int)) (by omega) (by omega), w64 (by omega) (by omega)]
 omega
theorem ic (n : Nat) (hn : n < 128) : Ev (fun k => bD.f k (n : Int)) ((t7s n 7 : Nat) : Int) := by
 unfold bD.f
 refine Ev.up (g := fun i k => bD.l0 k (n : Int) ((t7s n i : Nat) : Int) (i : Int)) 7 ?_ ?_ 0 (by omega)
 ·intro i hi h
  refine Ev.step (fun k => ?_) h
  have e1 : shr .i64 (n : Int) (i : Int) = ((n / 2 ^ i : Nat) : Int) := lQ .i64 n i (by simp [IntKind.bits]; omega)
  have e2 := po (n / 2 ^ i) (Nat.lt_of_le_of_lt (Nat.div_le_self _ _) (Nat.lt_trans hn (by decide)))
  have e3 := nz n i (Nat.le_of_lt hi)
  have e4 := dI i (Nat.lt_trans hi (by decide))
  simp only [bD.l0]
  rw [Fa (show (i : Int) < 7 from Int.ofNat_lt.mpr hi), Fa (Int.natCast_nonneg _), e1, e2, e3, e4]
 ·refine Ev.step (f := fun _ => some ((t7s n 7 : Nat) : Int)) (fun k => ?_) (Ev.now _)
  simp only [bD.l0]
  rw [Ga (by omega)]
theorem il (n : Nat) (hn : n < 128) : Ev (fun k => bi.f k (n : Int)) ((t7s n 7 : Nat) : Int) := by
 unfold bi.f
 have hm : Int.tmod (n : Int) 128 = (n : Int) := by rw [Int.tmod_eq_emod_of_nonneg (by omega), Int.emod_eq_of_lt (by omega) (by omega)]
 rw [hm]
 refine Ev.neg (by omega) ?_
 refine Ev.step (f := fun k => bi.l0 k (n : Int) 0 0) (fun k => ?_) ?_
 ·simp only [bi.j0]
 ·have key := Ev.up (g := fun i k => bi.l0 k ((n / 2 ^ i : Nat) : Int) ((t7s n i : Nat) : Int) (i : Int)) (r := ((t7s n 7 : Nat) : Int)) 7 ?_ ?_ 0 (by omega)
  ·simpa [t7s] using key
  ·intro i hi h
   refine Ev.step (fun k => ?_) h
   have e1 : Int.tmod ((n / 2 ^ i : Nat) : Int) 2 = ((n / 2 ^ i % 2 : Nat) : Int) := ne _
   have e2 := jU (n / 2 ^ i) (Nat.le_trans (Nat.div_le_self _ _) (Nat.le_trans (Nat.le_of_lt hn) (by decide)))
   have e3 := nz n i (Nat.le_of_lt hi)
   have e4 := dI i (Nat.lt_trans hi (by decide))
   have e5 : n / 2 ^ i / 2 = n / 2 ^ (i + 1) := by rw [Nat.div_div_eq_div_mul, Nat.pow_succ]
   simp only [bi.l0]
   rw [Fa (show (i : Int) < 7 from Int.ofNat_lt.mpr hi), e1, e2, e3, e4, e5]
  ·refine Ev.step (f := fun _ => some ((t7s n 7 : Nat) : Int)) (fun k => ?_) (Ev.now _)
   simp only [bi.l0]
   rw [Ga (by omega)]
/-- The powers of 17 that the transforms take. -/
def zed (n : Nat) : Int := pw 17 (t7s n 7)
theorem oF (n : Nat) : 0 ≤ zed n ∧ zed n ≤ 3328 := tC _ _
theorem lA (a b : Nat) (h : a + b ≤ 100000) : wrap64 ((a : Int) + (b : Int)) = ((a + b : Nat) : Int) := by rw [w64 (by omega) (by omega)]; omega
theorem p7 (a : Nat) (h : a ≤ 100000) : wrap64 (2 * (a : Int)) = ((2 * a : Nat) : Int) := by rw [w64 (by omega) (by omega)]; omega
theorem tu (a : Nat) (h : a ≤ 100000) : wrap64 (Int.tdiv (a : Int) 2) = ((a / 2 : Nat) : Int) := jU a (by omega)
theorem ku {x y : Int} (hx : 0 ≤ x ∧ x ≤ 3328) (hy : 0 ≤ y ∧ y ≤ 3328) : wrap64 (x * y) = x * y := by
 have := f7 hx hy
 exact w64 (by omega) (by omega)
/-- A butterfly on the numbers from st on, s of them with the s behind; the first j of them done. -/
def bfp (z : Int) (s st j : Nat) (f : Nat → Int) : Nat → Int := fun n =>
 if st ≤ n ∧ n < st + j then (f n + z * f (n + s)) % 3329 else if st + s ≤ n ∧ n < st + s + j then (f (n - s) - z * f n) % 3329 else f n
theorem tB (z : Int) (s st : Nat) (f : Nat → Int) : bfp z s st 0 f = f := by
 funext n; unfold bfp; rw [Ga (by omega), Ga (by omega)]
theorem tO {z : Int} {s st j : Nat} {f : Nat → Int} (hf : ∀ i, 0 ≤ f i ∧ f i ≤ 3328) (n : Nat) : 0 ≤ bfp z s st j f n ∧ bfp z s st j f n ≤ 3328 := by
 unfold bfp
 split
 ·exact fj _
 ·split
  ·exact fj _
  ·exact hf n
theorem nO {z : Int} {s st j : Nat} {f : Nat → Int} (h : j < s) : bfp z s st j f (st + j) = f (st + j) := by
 unfold bfp; rw [Ga (by omega), Ga (by omega)]
theorem qj {z : Int} {s st j : Nat} {f : Nat → Int} : bfp z s st j f (st + j + s) = f (st + j + s) := by
 unfold bfp; rw [Ga (by omega), Ga (by omega)]
theorem oG (z : Int) (s st j : Nat) (f : Nat → Int) (hj : j < s) : ((vec (bfp z s st j f)).set (st + j) ((f (st + j) + z * f (st + j + s)) % 3329)).set (st + j + s) ((f (st + j) - z * f (st + j + s)) % 3329) = vec (bfp z s st (j + 1) f) := by
 rw [fR, fR]
 refine dZ fun n _ => ?_
 by_cases h2 : n = st + j + s
 ·subst h2
  rw [Fa rfl]
  unfold bfp
  rw [Ga (by omega), Fa (by omega), show st + j + s - s = st + j by omega]
 ·rw [Ga h2]
  by_cases h1 : n = st + j
  ·subst h1
   rw [Fa rfl]
   unfold bfp
   rw [Fa (by omega)]
  ·rw [Ga h1]
   unfold bfp
   by_cases a : st ≤ n ∧ n < st + j
   ·rw [Fa a, Fa (by omega)]
   ·have a' : ¬ (st ≤ n ∧ n < st + (j + 1)) := by omega
    rw [Ga a, Ga a']
    by_cases b : st + s ≤ n ∧ n < st + s + j
    ·rw [Fa b, Fa (show st + s ≤ n ∧ n < st + s + (j + 1) by omega)]
    ·rw [Ga b, Ga (show ¬ (st + s ≤ n ∧ n < st + s + (j + 1)) by omega)]
theorem sc (z : Int) (s st j : Nat) (f : Nat → Int) (hs : 1 ≤ s) (A B : Int) : ((vec (bfp z s st j f)).set (st + j + s) B).set (st + j) A = ((vec (bfp z s st j f)).set (st + j) A).set (st + j + s) B :=
 List.set_comm _ _ (by omega)
/-- A layer: the first t butterflies of m, each of s and s numbers. -/
def lay (s m : Nat) : Nat → (Nat → Int) → Nat → Int
 | 0, f => f
 | t + 1, f => bfp (zed (m + t)) s (2 * s * t) s (lay s m t f)
theorem eQ {s m : Nat} {f : Nat → Int} (hf : ∀ i, 0 ≤ f i ∧ f i ≤ 3328) (t : Nat) : ∀ n, 0 ≤ lay s m t f n ∧ lay s m t f n ≤ 3328 := by
 induction t with
 | zero => exact hf
 | succ t ih => exact fun n => tO ih n
def om (f : Nat → Int) : Nat → Int := lay 2 64 64 (lay 4 32 32 (lay 8 16 16 (lay 16 8 8 (lay 32 4 4 (lay 64 2 2 (lay 128 1 1 f))))))
theorem ti {f : Nat → Int} (hf : ∀ i, 0 ≤ f i ∧ f i ≤ 3328) : ∀ n, 0 ≤ om f n ∧ om f n ≤ 3328 :=
 eQ (eQ (eQ (eQ (eQ (eQ (eQ hf 1) 2) 4) 8) 16) 32) 64
theorem pu (f : Nat → Int) (hf : ∀ i, 0 ≤ f i ∧ f i ≤ 3328) (z : Int) (hz : 0 ≤ z ∧ z ≤ 3328) (s st : Nat) (K : Int) (hs : 1 ≤ s) (hst : st + 2 * s ≤ 256) {r : List Int}
  (h : Ev (fun k => aU.l1 k (vec (bfp z s st s f)) K (s : Int) ((st + 2 * s : Nat) : Int)) r) : Ev (fun k => aU.l2 k (vec f) K (s : Int) (st : Int) z (st : Int)) r := by
 have e0 : vec f = vec (bfp z s st 0 f) := by rw [tB]
 have w1 := lA st s (by omega)
 rw [e0]
 refine Ev.up (g := fun j k => aU.l2 k (vec (bfp z s st j f)) K (s : Int) (st : Int) z ((st + j : Nat) : Int)) s ?_ ?_ 0 (by omega)
 ·intro j hj h'
  refine Ev.step (fun k => ?_) h'
  have c1 : st + j < st + s := Nat.add_lt_add_left hj _
  have c2 : st + j + s < 256 := Nat.lt_of_lt_of_le (Nat.add_lt_add_right c1 s) (Nat.le_trans (by rw [Nat.two_mul, Nat.add_assoc]; exact Ca _) hst)
  have c3 : st + j < 256 := Nat.lt_of_le_of_lt (Nat.le_add_right _ s) c2
  have w2 := lA (st + j) s (Nat.le_trans (Nat.le_of_lt c2) (by decide))
  have w3 : wrap64 (((st + j : Nat) : Int) + 1) = ((st + (j + 1) : Nat) : Int) := dI (st + j) (Nat.lt_trans c3 (by decide))
  have hm := f7 hz (hf (st + j + s))
  have h1 := hf (st + j)
  simp only [aU.l2]
  rw [w1]
  clear e0 w1
  rw [Fa (Int.ofNat_lt.mpr c1), w2, Fa (Int.natCast_nonneg _), Fa (by rw [bn]; exact Int.ofNat_lt.mpr c2), Fa (Int.natCast_nonneg _), Fa (by rw [bn]; exact Int.ofNat_lt.mpr c3), dM _ _ c3, dM _ _ c2, nO hj, qj, ku hz (hf _), w64 (x := f (st + j) + z * f (st + j + s)) (by omega) (by omega), w64 (x := f (st + j) - z * f (st + j + s)) (by omega) (by omega), gA _ (by omega) (by omega), Option.bind_some, gA _ (by omega) (by omega), Option.bind_some, Int.toNat_natCast, Int.toNat_natCast, oG z s st j f hj, w3]
 ·refine Ev.step (fun k => ?_) h
  have c1 : ¬ ((st + s : Nat) : Int) < ((st + s : Nat) : Int) := Int.lt_irrefl _
  have w4 := p7 s (by clear w1; omega)
  have w5 := lA st (2 * s) (by clear w1 w4; omega)
  simp only [aU.l2]
  rw [w1, Ga c1, w4, w5]
theorem fh (s m : Nat) (hsm : 2 * s * m = 256) (hs : 1 ≤ s) (hm : 1 ≤ m) (f : Nat → Int) (hf : ∀ i, 0 ≤ f i ∧ f i ≤ 3328) (hs2 : 2 ≤ s) {r : List Int}
  (h : Ev (fun k => aU.l0 k (vec (lay s m m f)) ((2 * m : Nat) : Int) ((s / 2 : Nat) : Int)) r) : Ev (fun k => aU.l0 k (vec f) (m : Int) (s : Int)) r := by
 have hs128 : s ≤ 128 := by
  have : 2 * s * 1 ≤ 2 * s * m := Nat.mul_le_mul_left _ hm
  omega
 have hm128 : m ≤ 128 := by
  have : 2 * m ≤ 2 * s * m := Nat.mul_le_mul_right _ (by omega)
  omega
 refine Ev.step (f := fun k => aU.l1 k (vec f) (m : Int) (s : Int) 0) (fun k => ?_) ?_
 ·simp only [aU.l0]
  rw [Fa (by omega)]
 ·refine Ev.up (g := fun t k => aU.l1 k (vec (lay s m t f)) ((m + t : Nat) : Int) (s : Int) ((2 * s * t : Nat) : Int)) m ?_ ?_ 0 (by omega)
  ·intro t ht h'
   have c0 : 2 * s * t + 2 * s ≤ 256 := by rw [← Nat.mul_succ, ← hsm]; exact Nat.mul_le_mul_left _ ht
   have ek : m + t < 128 := by
    have : 4 * m ≤ 2 * s * m := Nat.mul_le_mul_right _ (by omega)
    omega
   have w1 := dI (m + t) (Nat.lt_trans ek (by decide))
   have h2 := pu (lay s m t f) (eQ hf t) (zed (m + t)) (oF _) s (2 * s * t) ((m + t + 1 : Nat) : Int) hs c0 h'
   have cond : ((2 * s * t : Nat) : Int) < 256 := by clear w1; omega
   refine Ev.step (f := fun k => (bD.f k ((m + t : Nat) : Int)).bind fun t287 => ((bG.f k 17 t287).bind fun t288 => (aU.l2 k (vec (lay s m t f)) (wrap64 (((m + t : Nat) : Int) + 1)) (s : Int) ((2 * s * t : Nat) : Int) t288 ((2 * s * t : Nat) : Int)))) (fun k => ?_) ?_
   ·simp only [aU.l1]
    rw [Fa cond]
   ·rw [w1]
    exact Ev.bind (ic (m + t) ek) (Ev.bind (iM 17 (by decide) _ (Nat.le_trans (Nat.le_of_lt (na _)) (by decide))) h2)
  ·refine Ev.step (fun k => ?_) h
   have w1 := tu s (by omega)
   have c1 : ¬ ((2 * s * m : Nat) : Int) < 256 := by clear w1; omega
   simp only [aU.l1]
   rw [Ga c1, w1, show m + m = 2 * m by rw [Nat.two_mul]]
theorem o1 (f : Nat → Int) (hf : ∀ i, 0 ≤ f i ∧ f i ≤ 3328) : Ev (fun k => aU.f k (vec f)) (vec (om f)) := by
 have core : Ev (fun k => aU.l0 k (vec f) 1 128) (vec (om f)) := by
  have i1 := eQ (s := 128) (m := 1) hf 1
  have i2 := eQ (s := 64) (m := 2) i1 2
  have i3 := eQ (s := 32) (m := 4) i2 4
  have i4 := eQ (s := 16) (m := 8) i3 8
  have i5 := eQ (s := 8) (m := 16) i4 16
  have i6 := eQ (s := 4) (m := 32) i5 32
  refine fh 128 1 (by decide) (by decide) (by decide) f hf (by decide) ?_
  refine fh 64 2 (by decide) (by decide) (by decide) _ i1 (by decide) ?_
  refine fh 32 4 (by decide) (by decide) (by decide) _ i2 (by decide) ?_
  refine fh 16 8 (by decide) (by decide) (by decide) _ i3 (by decide) ?_
  refine fh 8 16 (by decide) (by decide) (by decide) _ i4 (by decide) ?_
  refine fh 4 32 (by decide) (by decide) (by decide) _ i5 (by decide) ?_
  refine fh 2 64 (by decide) (by decide) (by decide) _ i6 (by decide) ?_
  refine Ev.step (f := fun _ => some (vec (om f))) (fun k => ?_) (Ev.now _)
  simp only [aU.l0]
  rw [Ga (by decide)]
  rfl
 unfold aU.f
 have ok := eo (f := f) fun i _ => hf i
 have ln := bn f
 refine Ev.bind (ok ▸ dJ (vec f) (by omega)) (Ev.pos rfl ?_)
 refine Ev.then (a := vec f) ?_ core
 unfold dF.f
 rw [Fa (by rw [ln]; decide), List.nil_append]
theorem o2 (f : Nat → Int) (hf : ∀ i, 0 ≤ f i ∧ f i ≤ 3328) (z : Int) (hz : 0 ≤ z ∧ z ≤ 3328) (s st : Nat) (K : Int) (hs : 1 ≤ s) (hst : st + 2 * s ≤ 256) {r : List Int}
  (h : Ev (fun k => ba.l1 k (vec (bfp z s st s f)) K (s : Int) ((st + 2 * s : Nat) : Int)) r) : Ev (fun k => ba.l2 k (vec f) K (s : Int) (st : Int) z (st : Int)) r := by
 have e0 : vec f = vec (bfp z s st 0 f) := by rw [tB]
 have w1 := lA st s (by omega)
 rw [e0]
 refine Ev.up (g := fun j k => ba.l2 k (vec (bfp z s st j f)) K (s : Int) (st : Int) z ((st + j : Nat) : Int)) s ?_ ?_ 0 (by omega)
 ·intro j hj h'
  refine Ev.step (fun k => ?_) h'
  have c1 : st + j < st + s := Nat.add_lt_add_left hj _
  have c2 : st + j + s < 256 := Nat.lt_of_lt_of_le (Nat.add_lt_add_right c1 s) (Nat.le_trans (by rw [Nat.two_mul, Nat.add_assoc]; exact Ca _) hst)
  have c3 : st + j < 256 := Nat.lt_of_le_of_lt (Nat.le_add_right _ s) c2
  have w2 := lA (st + j) s (Nat.le_trans (Nat.le_of_lt c2) (by decide))
  have w3 : wrap64 (((st + j : Nat) : Int) + 1) = ((st + (j + 1) : Nat) : Int) := dI (st + j) (Nat.lt_trans c3 (by decide))
  have hm := f7 hz (hf (st + j + s))
  have h1 := hf (st + j)
  simp only [ba.l2, Option.bind_some]
  rw [w1]
  clear e0 w1
  rw [Fa (Int.ofNat_lt.mpr c1), w2, Fa (Int.natCast_nonneg _), Fa (by rw [bn]; exact Int.ofNat_lt.mpr c2), Fa (Int.natCast_nonneg _), Fa (by rw [bn]; exact Int.ofNat_lt.mpr c3), dM _ _ c3, dM _ _ c2, nO hj, qj, jo hz (hf _), Int.toNat_natCast, Int.toNat_natCast, fR, dM _ _ c3, Ga (show ¬ st + j = st + j + s by omega), nO hj, ← fR]
  rw [show Int.tmod (wrap64 ((wrap64 (f (st + j) - z * f (st + j + s) % 3329)) + 3329)) 3329 = (f (st + j) - z * f (st + j + s)) % 3329 by
   rw [w64 (x := f (st + j) - z * f (st + j + s) % 3329) (by omega) (by omega), w64 (by omega) (by omega), Int.tmod_eq_emod_of_nonneg (by omega)]; omega]
  rw [show Int.tmod (wrap64 (f (st + j) + z * f (st + j + s) % 3329)) 3329 = (f (st + j) + z * f (st + j + s)) % 3329 by
   rw [w64 (by omega) (by omega), Int.tmod_eq_emod_of_nonneg (by omega)]; omega]
  rw [sc z s st j f hs, oG z s st j f hj, w3]
 ·refine Ev.step (fun k => ?_) h
  have c1 : ¬ ((st + s : Nat) : Int) < ((st + s : Nat) : Int) := Int.lt_irrefl _
  have w4 := p7 s (by clear w1; omega)
  have w5 := lA st (2 * s) (by clear w1 w4; omega)
  simp only [ba.l2]
  rw [w1, Ga c1, w4, w5]
theorem fi (s m : Nat) (hsm : 2 * s * m = 256) (hs : 1 ≤ s) (hm : 1 ≤ m) (f : Nat → Int) (hf : ∀ i, 0 ≤ f i ∧ f i ≤ 3328) (hs2 : 2 ≤ s) {r : List Int}
  (h : Ev (fun k => ba.l0 k (vec (lay s m m f)) ((2 * m : Nat) : Int) ((s / 2 : Nat) : Int)) r) : Ev (fun k => ba.l0 k (vec f) (m : Int) (s : Int)) r := by
 have hs128 : s ≤ 128 := by
  have : 2 * s * 1 ≤ 2 * s * m := Nat.mul_le_mul_left _ hm
  omega
 have hm128 : m ≤ 128 := by
  have : 2 * m ≤ 2 * s * m := Nat.mul_le_mul_right _ (by omega)
  omega
 refine Ev.step (f := fun k => ba.l1 k (vec f) (m : Int) (s : Int) 0) (fun k => ?_) ?_
 ·simp only [ba.l0]
  rw [Fa (by omega)]
 ·refine Ev.up (g := fun t k => ba.l1 k (vec (lay s m t f)) ((m + t : Nat) : Int) (s : Int) ((2 * s * t : Nat) : Int)) m ?_ ?_ 0 (by omega)
  ·intro t ht h'
   have c0 : 2 * s * t + 2 * s ≤ 256 := by rw [← Nat.mul_succ, ← hsm]; exact Nat.mul_le_mul_left _ ht
   have ek : m + t < 128 := by
    have : 4 * m ≤ 2 * s * m := Nat.mul_le_mul_right _ (by omega)
    omega
   have w1 := dI (m + t) (Nat.lt_trans ek (by decide))
   have h2 := o2 (lay s m t f) (eQ hf t) (zed (m + t)) (oF _) s (2 * s * t) ((m + t + 1 : Nat) : Int) hs c0 h'
   have cond : ((2 * s * t : Nat) : Int) < 256 := by clear w1; omega
   refine Ev.step (f := fun k => (bi.f k ((m + t : Nat) : Int)).bind fun t287 => ((bv.f k 17 t287).bind fun t288 => (ba.l2 k (vec (lay s m t f)) (wrap64 (((m + t : Nat) : Int) + 1)) (s : Int) ((2 * s * t : Nat) : Int) t288 ((2 * s * t : Nat) : Int)))) (fun k => ?_) ?_
   ·simp only [ba.l1]
    rw [Fa cond]
   ·rw [w1]
    exact Ev.bind (il (m + t) ek) (Ev.bind (iV 17 (by decide) _ (Nat.le_trans (Nat.le_of_lt (na _)) (by decide))) h2)
  ·refine Ev.step (fun k => ?_) h
   have w1 := tu s (by omega)
   have c1 : ¬ ((2 * s * m : Nat) : Int) < 256 := by clear w1; omega
   simp only [ba.l1]
   rw [Ga c1, w1, show m + m = 2 * m by rw [Nat.two_mul]]
theorem o6 (f : Nat → Int) (hf : ∀ i, 0 ≤ f i ∧ f i ≤ 3328) : Ev (fun k => ba.f k (vec f)) (vec (om f)) := by
 have core : Ev (fun k => ba.l0 k (vec f) 1 128) (vec (om f)) := by
  have i1 := eQ (s := 128) (m := 1) hf 1
  have i2 := eQ (s := 64) (m := 2) i1 2
  have i3 := eQ (s := 32) (m := 4) i2 4
  have i4 := eQ (s := 16) (m := 8) i3 8
  have i5 := eQ (s := 8) (m := 16) i4 16
  have i6 := eQ (s := 4) (m := 32) i5 32
  refine fi 128 1 (by decide) (by decide) (by decide) f hf (by decide) ?_
  refine fi 64 2 (by decide) (by decide) (by decide) _ i1 (by decide) ?_
  refine fi 32 4 (by decide) (by decide) (by decide) _ i2 (by decide) ?_
  refine fi 16 8 (by decide) (by decide) (by decide) _ i3 (by decide) ?_
  refine fi 8 16 (by decide) (by decide) (by decide) _ i4 (by decide) ?_
  refine fi 4 32 (by decide) (by decide) (by decide) _ i5 (by decide) ?_
  refine fi 2 64 (by decide) (by decide) (by decide) _ i6 (by decide) ?_
  refine Ev.step (f := fun _ => some (vec (om f))) (fun k => ?_) (Ev.now _)
  simp only [ba.l0]
  rw [Ga (by decide)]
  rfl
 unfold ba.f
 have ok := eo (f := f) fun i _ => hf i
 have ln := bn f
 refine Ev.bind (ok ▸ dx (vec f)) (Ev.pos rfl ?_)
 simp only [Option.bind_some]
 refine Ev.pos (by rw [ln]; decide) ?_
 rw [List.nil_append]
 exact core
/-- A butterfly back on the numbers from st on, s of them with the s behind; the first j of them done. -/
def bfi (z : Int) (s st j : Nat) (f : Nat → Int) : Nat → Int := fun n =>
 if st ≤ n ∧ n < st + j then (f n + f (n + s)) % 3329 else if st + s ≤ n ∧ n < st + s + j then (z * (f n - f (n - s))) % 3329 else f n
theorem tm (z : Int) (s st : Nat) (f : Nat → Int) : bfi z s st 0 f = f := by
 funext n; unfold bfi; rw [Ga (by omega), Ga (by omega)]
theorem t9 {z : Int} {s st j : Nat} {f : Nat → Int} (hf : ∀ i, 0 ≤ f i ∧ f i ≤ 3328) (n : Nat) : 0 ≤ bfi z s st j f n ∧ bfi z s st j f n ≤ 3328 := by
 unfold bfi
 split
 ·exact fj _
 ·split
  ·exact fj _
  ·exact hf n
theorem qH {z : Int} {s st j : Nat} {f : Nat → Int} (h : j < s) : bfi z s st j f (st + j) = f (st + j) := by
 unfold bfi; rw [Ga (by omega), Ga (by omega)]
theorem oz {z : Int} {s st j : Nat} {f : Nat → Int} : bfi z s st j f (st + j + s) = f (st + j + s) := by
 unfold bfi; rw [Ga (by omega), Ga (by omega)]
theorem o9 (z : Int) (s st j : Nat) (f : Nat → Int) (hj : j < s) : ((vec (bfi z s st j f)).set (st + j) ((f (st + j) + f (st + j + s)) % 3329)).set (st + j + s) ((z * (f (st + j + s) - f (st + j))) % 3329) = vec (bfi z s st (j + 1) f) := by
 rw [fR, fR]
 refine dZ fun n _ => ?_
 by_cases h2 : n = st + j + s
 ·subst h2
  rw [Fa rfl]
  unfold bfi
  rw [Ga (by omega), Fa (by omega), show st + j + s - s = st + j by omega]
 ·rw [Ga h2]
  by_cases h1 : n = st + j
  ·subst h1
   rw [Fa rfl]
   unfold bfi
   rw [Fa (by omega)]
  ·rw [Ga h1]
   unfold bfi
   by_cases a : st ≤ n ∧ n < st + j
   ·rw [Fa a, Fa (by omega)]
   ·have a' : ¬ (st ≤ n ∧ n < st + (j + 1)) := by omega
    rw [Ga a, Ga a']
    by_cases b : st + s ≤ n ∧ n < st + s + j
    ·rw [Fa b, Fa (show st + s ≤ n ∧ n < st + s + (j + 1) by omega)]
    ·rw [Ga b, Ga (show ¬ (st + s ≤ n ∧ n < st + s + (j + 1)) by omega)]
/-- A layer back: the first t butterflies of m, each of s and s numbers; the powers are taken from 2m-1 downwards. -/
def jg (s m : Nat) : Nat → (Nat → Int) → Nat → Int
 | 0, f => f
 | t + 1, f => bfi (zed (2 * m - 1 - t)) s (2 * s * t) s (jg s m t f)
theorem eT {s m : Nat} {f : Nat → Int} (hf : ∀ i, 0 ≤ f i ∧ f i ≤ 3328) (t : Nat) : ∀ n, 0 ≤ jg s m t f n ∧ jg s m t f n ≤ 3328 := by
 induction t with
 | zero => exact hf
 | succ t ih => exact fun n => t9 ih n
def sm (f : Nat → Int) : Nat → Int := fun n => jg 128 1 1 (jg 64 2 2 (jg 32 4 4 (jg 16 8 8 (jg 8 16 16 (jg 4 32 32 (jg 2 64 64 f)))))) n * 3303 % 3329
theorem od {z x y : Int} (hz : 0 ≤ z ∧ z ≤ 3328) (hx : 0 ≤ x ∧ x ≤ 3328) (hy : 0 ≤ y ∧ y ≤ 3328) : -11075584 ≤ z * (y - x) ∧ z * (y - x) ≤ 11075584 := by
 have h1 := f7 hz hx
 have h2 := f7 hz hy
 rw [Int.mul_sub]
 omega
theorem ml (f : Nat → Int) (hf : ∀ i, 0 ≤ f i ∧ f i ≤ 3328) (z : Int) (hz : 0 ≤ z ∧ z ≤ 3328) (s st : Nat) (K : Int) (hs : 1 ≤ s) (hst : st + 2 * s ≤ 256) {r : List Int}
  (h : Ev (fun k => ah.l1 k (vec (bfi z s st s f)) K (s : Int) ((st + 2 * s : Nat) : Int)) r) : Ev (fun k => ah.l2 k (vec f) K (s : Int) (st : Int) z (st : Int)) r := by
 have e0 : vec f = vec (bfi z s st 0 f) := by rw [tm]
 have w1 := lA st s (by omega)
 rw [e0]
 refine Ev.up (g := fun j k => ah.l2 k (vec (bfi z s st j f)) K (s : Int) (st : Int) z ((st + j : Nat) : Int)) s ?_ ?_ 0 (by omega)
 ·intro j hj h'
  refine Ev.step (fun k => ?_) h'
  have c1 : st + j < st + s := Nat.add_lt_add_left hj _
  have c2 : st + j + s < 256 := Nat.lt_of_lt_of_le (Nat.add_lt_add_right c1 s) (Nat.le_trans (by rw [Nat.two_mul, Nat.add_assoc]; exact Ca _) hst)
  have c3 : st + j < 256 := Nat.lt_of_le_of_lt (Nat.le_add_right _ s) c2
  have w2 := lA (st + j) s (Nat.le_trans (Nat.le_of_lt c2) (by decide))
  have w3 : wrap64 (((st + j : Nat) : Int) + 1) = ((st + (j + 1) : Nat) : Int) := dI (st + j) (Nat.lt_trans c3 (by decide))
  have h1 := hf (st + j)
  have h2 := hf (st + j + s)
  have hm := od hz h1 h2
  simp only [ah.l2]
  rw [w1]
  clear e0 w1
  rw [Fa (Int.ofNat_lt.mpr c1), w2, Fa (Int.natCast_nonneg _), Fa (by rw [bn]; exact Int.ofNat_lt.mpr c3), Fa (Int.natCast_nonneg _), Fa (by rw [bn]; exact Int.ofNat_lt.mpr c2), dM _ _ c3, dM _ _ c2, qH hj, oz, w64 (x := f (st + j) + f (st + j + s)) (by omega) (by omega), w64 (x := f (st + j + s) - f (st + j)) (by omega) (by omega), w64 (x := z * (f (st + j + s) - f (st + j))) (by omega) (by omega), gA _ (by omega) (by omega), Option.bind_some, gA _ (by omega) (by omega), Option.bind_some, Int.toNat_natCast, Int.toNat_natCast, o9 z s st j f hj, w3]
 ·refine Ev.step (fun k => ?_) h
  have c1 : ¬ ((st + s : Nat) : Int) < ((st + s : Nat) : Int) := Int.lt_irrefl _
  have w4 := p7 s (by clear w1; omega)
  have w5 := lA st (2 * s) (by clear w1 w4; omega)
  simp only [ah.l2]
  rw [w1, Ga c1, w4, w5]
theorem tw (a : Nat) (h1 : 1 ≤ a) (h : a ≤ 100000) : wrap64 ((a : Int) - 1) = ((a - 1 : Nat) : Int) := by rw [w64 (by omega) (by omega)]; omega
theorem sh (a : Nat) (h : a ≤ 100000) : wrap64 ((a : Int) * 2) = ((a * 2 : Nat) : Int) := by rw [w64 (by omega) (by omega)]; omega
theorem d3 (s m : Nat) (hsm : 2 * s * m = 256) (hs : 2 ≤ s) (hm : 1 ≤ m) (f : Nat → Int) (hf : ∀ i, 0 ≤ f i ∧ f i ≤ 3328) {r : List Int}
  (h : Ev (fun k => ah.l0 k (vec (jg s m m f)) ((2 * m - 1 - m : Nat) : Int) ((s * 2 : Nat) : Int)) r) : Ev (fun k => ah.l0 k (vec f) ((2 * m - 1 : Nat) : Int) (s : Int)) r := by
 have hs128 : s ≤ 128 := by
  have : 2 * s * 1 ≤ 2 * s * m := Nat.mul_le_mul_left _ hm
  omega
 have hm64 : 2 * m ≤ 128 := by
  have : 4 * m ≤ 2 * s * m := Nat.mul_le_mul_right _ (by omega)
  omega
 refine Ev.step (f := fun k => ah.l1 k (vec f) ((2 * m - 1 : Nat) : Int) (s : Int) 0) (fun k => ?_) ?_
 ·simp only [ah.l0]
  rw [Fa (by omega)]
 ·refine Ev.up (g := fun t k => ah.l1 k (vec (jg s m t f)) ((2 * m - 1 - t : Nat) : Int) (s : Int) ((2 * s * t : Nat) : Int)) m ?_ ?_ 0 (by omega)
  ·intro t ht h'
   have c0 : 2 * s * t + 2 * s ≤ 256 := by rw [← Nat.mul_succ, ← hsm]; exact Nat.mul_le_mul_left _ ht
   have ek : 2 * m - 1 - t < 128 := by omega
   have w1 := tw (2 * m - 1 - t) (by omega) (by omega)
   have e1 : 2 * m - 1 - t - 1 = 2 * m - 1 - (t + 1) := by clear w1; omega
   rw [e1] at w1
   have h2 := ml (jg s m t f) (eT hf t) (zed (2 * m - 1 - t)) (oF _) s (2 * s * t) ((2 * m - 1 - (t + 1) : Nat) : Int) (Nat.le_trans (by decide) hs) c0 h'
   have cond : ((2 * s * t : Nat) : Int) < 256 := by clear w1; omega
   refine Ev.step (f := fun k => (bD.f k ((2 * m - 1 - t : Nat) : Int)).bind fun t300 => ((bG.f k 17 t300).bind fun t301 => (ah.l2 k (vec (jg s m t f)) (wrap64 (((2 * m - 1 - t : Nat) : Int) - 1)) (s : Int) ((2 * s * t : Nat) : Int) t301 ((2 * s * t : Nat) : Int)))) (fun k => ?_) ?_
   ·simp only [ah.l1]
    rw [Fa cond]
   ·rw [w1]
    exact Ev.bind (ic _ ek) (Ev.bind (iM 17 (by decide) _ (Nat.le_trans (Nat.le_of_lt (na _)) (by decide))) h2)
  ·refine Ev.step (fun k => ?_) h
   have w1 := sh s (by omega)
   have c1 : ¬ ((2 * s * m : Nat) : Int) < 256 := by clear w1; omega
   simp only [ah.l1]
   rw [Ga c1, w1]
theorem q7 {z x y : Int} (hz : 0 ≤ z ∧ z ≤ 3328) (hx : 0 ≤ x ∧ x ≤ 3328) (hy : 0 ≤ y ∧ y ≤ 3328) : Int.tmod (wrap64 (z * (wrap64 ((wrap64 (y - x)) + 3329)))) 3329 = z * (y - x) % 3329 := by
 have h0 := od hz hx hy
 have e : z * (y - x + 3329) = z * (y - x) + 3329 * z := by rw [Int.mul_add, Int.mul_comm z 3329]
 have hn : 0 ≤ z * (y - x + 3329) := Int.mul_nonneg hz.1 (by omega)
 rw [w64 (x := y - x) (by omega) (by omega), w64 (x := y - x + 3329) (by omega) (by omega), w64 (x := z * (y - x + 3329)) (by omega) (by omega), Int.tmod_eq_emod_of_nonneg hn, e]
 omega
theorem l9 (f : Nat → Int) (hf : ∀ i, 0 ≤ f i ∧ f i ≤ 3328) (z : Int) (hz : 0 ≤ z ∧ z ≤ 3328) (s st : Nat) (K : Int) (hs : 1 ≤ s) (hst : st + 2 * s ≤ 256) {r : List Int}
  (h : Ev (fun k => al.l1 k (vec (bfi z s st s f)) K (s : Int) ((st + 2 * s : Nat) : Int)) r) : Ev (fun k => al.l2 k (vec f) K (s : Int) (st : Int) z (st : Int)) r := by
 have e0 : vec f = vec (bfi z s st 0 f) := by rw [tm]
 have w1 := lA st s (by omega)
 rw [e0]
 refine Ev.up (g := fun j k => al.l2 k (vec (bfi z s st j f)) K (s : Int) (st : Int) z ((st + j : Nat) : Int)) s ?_ ?_ 0 (by omega)
 ·intro j hj h'
  refine Ev.step (fun k => ?_) h'
  have c1 : st + j < st + s := Nat.add_lt_add_left hj _
  have c2 : st + j + s < 256 := Nat.lt_of_lt_of_le (Nat.add_lt_add_right c1 s) (Nat.le_trans (by rw [Nat.two_mul, Nat.add_assoc]; exact Ca _) hst)
  have c3 : st + j < 256 := Nat.lt_of_le_of_lt (Nat.le_add_right _ s) c2
  have w2 := lA (st + j) s (Nat.le_trans (Nat.le_of_lt c2) (by decide))
  have w3 : wrap64 (((st + j : Nat) : Int) + 1) = ((st + (j + 1) : Nat) : Int) := dI (st + j) (Nat.lt_trans c3 (by decide))
  have h1 := hf (st + j)
  have h2 := hf (st + j + s)
  have hm := od hz h1 h2
  have nj : ¬ st + j + s = st + j := by clear e0 w1 w2; omega
  have ey : ∀ v : Int, rd ((vec (bfi z s st j f)).set (st + j) v) ((st + j + s : Nat) : Int) = f (st + j + s) := by
   intro v
   rw [fR, dM _ _ c2, Ga nj, oz]
  have em := q7 hz h1 h2
  simp only [al.l2, Option.bind_some]
  rw [w1]
  clear e0 w1
  rw [Fa (Int.ofNat_lt.mpr c1), w2, Fa (Int.natCast_nonneg _), Fa (by rw [bn]; exact Int.ofNat_lt.mpr c3), Fa (Int.natCast_nonneg _), Fa (by rw [bn]; exact Int.ofNat_lt.mpr c2), Int.toNat_natCast, Int.toNat_natCast, ey, dM _ _ c3, qH hj, dM _ _ c2, oz, em, w64 (x := f (st + j) + f (st + j + s)) (by omega) (by omega), Int.tmod_eq_emod_of_nonneg (show 0 ≤ f (st + j) + f (st + j + s) by omega), o9 z s st j f hj, w3]
 ·refine Ev.step (fun k => ?_) h
  have c1 : ¬ ((st + s : Nat) : Int) < ((st + s : Nat) : Int) := Int.lt_irrefl _
  have w4 := p7 s (by clear w1; omega)
  have w5 := lA st (2 * s) (by clear w1 w4; omega)
  simp only [al.l2]
  rw [w1, Ga c1, w4, w5]
theorem d6 (s m : Nat) (hsm : 2 * s * m = 256) (hs : 2 ≤ s) (hm : 1 ≤ m) (f : Nat → Int) (hf : ∀ i, 0 ≤ f i ∧ f i ≤ 3328) {r : List Int}
  (h : Ev (fun k => al.l0 k (vec (jg s m m f)) ((2 * m - 1 - m : Nat) : Int) ((s * 2 : Nat) : Int)) r) : Ev (fun k => al.l0 k (vec f) ((2 * m - 1 : Nat) : Int) (s : Int)) r := by
 have hs128 : s ≤ 128 := by
  have : 2 * s * 1 ≤ 2 * s * m := Nat.mul_le_mul_left _ hm
  omega
 have hm64 : 2 * m ≤ 128 := by
  have : 4 * m ≤ 2 * s * m := Nat.mul_le_mul_right _ (by omega)
  omega
 refine Ev.step (f := fun k => al.l1 k (vec f) ((2 * m - 1 : Nat) : Int) (s : Int) 0) (fun k => ?_) ?_
 ·simp only [al.l0]
  rw [Fa (by omega)]
 ·refine Ev.up (g := fun t k => al.l1 k (vec (jg s m t f)) ((2 * m - 1 - t : Nat) : Int) (s : Int) ((2 * s * t : Nat) : Int)) m ?_ ?_ 0 (by omega)
  ·intro t ht h'
   have c0 : 2 * s * t + 2 * s ≤ 256 := by rw [← Nat.mul_succ, ← hsm]; exact Nat.mul_le_mul_left _ ht
   have ek : 2 * m - 1 - t < 128 := by omega
   have w1 := tw (2 * m - 1 - t) (by omega) (by omega)
   have e1 : 2 * m - 1 - t - 1 = 2 * m - 1 - (t + 1) := by clear w1; omega
   rw [e1] at w1
   have h2 := l9 (jg s m t f) (eT hf t) (zed (2 * m - 1 - t)) (oF _) s (2 * s * t) ((2 * m - 1 - (t + 1) : Nat) : Int) (Nat.le_trans (by decide) hs) c0 h'
   have cond : ((2 * s * t : Nat) : Int) < 256 := by clear w1; omega
   refine Ev.step (f := fun k => (bi.f k ((2 * m - 1 - t : Nat) : Int)).bind fun t300 => ((bv.f k 17 t300).bind fun t301 => (al.l2 k (vec (jg s m t f)) (wrap64 (((2 * m - 1 - t : Nat) : Int) - 1)) (s : Int) ((2 * s * t : Nat) : Int) t301 ((2 * s * t : Nat) : Int)))) (fun k => ?_) ?_
   ·simp only [al.l1]
    rw [Fa cond]
   ·rw [w1]
    exact Ev.bind (il _ ek) (Ev.bind (iV 17 (by decide) _ (Nat.le_trans (Nat.le_of_lt (na _)) (by decide))) h2)
  ·refine Ev.step (fun k => ?_) h
   have w1 := sh s (by omega)
   have c1 : ¬ ((2 * s * m : Nat) : Int) < 256 := by clear w1; omega
   simp only [al.l1]
   rw [Ga c1, w1]
def kF (f : Nat → Int) (i : Nat) : Nat → Int := fun n => if n < i then f n * 3303 % 3329 else f n
theorem r6 (f : Nat → Int) : kF f 0 = f := rfl
theorem oU (f : Nat → Int) : vec (kF f 256) = vec fun n => f n * 3303 % 3329 := dZ fun _ hn => Fa hn
theorem ng (f : Nat → Int) (i : Nat) : (vec (kF f i)).set i (f i * 3303 % 3329) = vec (kF f (i + 1)) := by
 rw [fR]
 refine dZ fun n _ => ?_
 unfold kF
 by_cases e : n = i
 ·subst e; rw [Fa rfl, Fa (by omega)]
 ·rw [Ga e]
  by_cases h : n < i
  ·rw [Fa h, Fa (by omega)]
  ·rw [Ga h, Ga (by omega)]
theorem mJ (f : Nat → Int) (hf : ∀ i, 0 ≤ f i ∧ f i ≤ 3328) : Ev (fun k => ah.l3 k (vec f) ((256 : Nat) : Int) 0) (vec fun n => f n * 3303 % 3329) := by
 have e0 : vec f = vec (kF f 0) := by rw [r6]
 rw [e0]
 refine Ev.up (g := fun i k => ah.l3 k (vec (kF f i)) ((256 : Nat) : Int) (i : Int)) 256 ?_ ?_ 0 (by omega)
 ·intro i hi h
  refine Ev.step (fun k => ?_) h
  have hb := hf i
  have ei : kF f i i = f i := Ga (Nat.lt_irrefl _)
  simp only [ah.l3]
  rw [Fa (by omega), Fa (by omega), Fa (by rw [bn]; omega), dM _ _ hi, ei, w64 (x := f i * 3303) (by omega) (by omega), gA _ (by omega) (by omega), Option.bind_some, Int.toNat_natCast, ng, dI i (by omega)]
 ·refine Ev.step (f := fun _ => some (vec (kF f 256))) (fun k => ?_) ?_
  ·simp only [ah.l3]
   rw [Ga (by omega)]
  ·rw [oU]; exact Ev.now _
theorem mM (f : Nat → Int) (hf : ∀ i, 0 ≤ f i ∧ f i ≤ 3328) : Ev (fun k => al.l3 k (vec f) 0) (vec fun n => f n * 3303 % 3329) := by
 have e0 : vec f = vec (kF f 0) := by rw [r6]
 rw [e0]
 refine Ev.up (g := fun i k => al.l3 k (vec (kF f i)) (i : Int)) 256 ?_ ?_ 0 (by omega)
 ·intro i hi h
  refine Ev.step (fun k => ?_) h
  have hb := hf i
  have ei : kF f i i = f i := Ga (Nat.lt_irrefl _)
  simp only [al.l3]
  rw [Fa (by omega), Fa (by omega), Fa (by rw [bn]; omega), dM _ _ hi, ei, w64 (x := f i * 3303) (by omega) (by omega), Int.tmod_eq_emod_of_nonneg (show 0 ≤ f i * 3303 by omega), Int.toNat_natCast, ng, dI i (by omega)]
 ·refine Ev.step (f := fun _ => some (vec (kF f 256))) (fun k => ?_) ?_
  ·simp only [al.l3]
   rw [Ga (by omega)]
  ·rw [oU]; exact Ev.now _
theorem mE (f : Nat → Int) (hf : ∀ i, 0 ≤ f i ∧ f i ≤ 3328) : Ev (fun k => ah.f k (vec f)) (vec (sm f)) := by
 have core : Ev (fun k => ah.l0 k (vec f) 127 2) (vec (sm f)) := by
  have i1 := eT (s := 2) (m := 64) hf 64
  have i2 := eT (s := 4) (m := 32) i1 32
  have i3 := eT (s := 8) (m := 16) i2 16
  have i4 := eT (s := 16) (m := 8) i3 8
  have i5 := eT (s := 32) (m := 4) i4 4
  have i6 := eT (s := 64) (m := 2) i5 2
  have i7 := eT (s := 128) (m := 1) i6 1
  refine d3 2 64 (by decide) (by decide) (by decide) f hf ?_
  refine d3 4 32 (by decide) (by decide) (by decide) _ i1 ?_
  refine d3 8 16 (by decide) (by decide) (by decide) _ i2 ?_
  refine d3 16 8 (by decide) (by decide) (by decide) _ i3 ?_
  refine d3 32 4 (by decide) (by decide) (by decide) _ i4 ?_
  refine d3 64 2 (by decide) (by decide) (by decide) _ i5 ?_
  refine d3 128 1 (by decide) (by decide) (by decide) _ i6 ?_
  refine Ev.step (fun k => ?_) (mJ _ i7)
  simp only [ah.l0]
  rw [Ga (by decide), bn]
 unfold ah.f
 have ok := eo (f := f) fun i _ => hf i
 have ln := bn f
 refine Ev.bind (ok ▸ dJ (vec f) (by omega)) (Ev.pos rfl ?_)
 refine Ev.then (a := vec f) ?_ core
 unfold dF.f
 rw [Fa (by rw [ln]; decide), List.nil_append]
theorem mR (f : Nat → Int) (hf : ∀ i, 0 ≤ f i ∧ f i ≤ 3328) : Ev (fun k => al.f k (vec f)) (vec (sm f)) := by
 have core : Ev (fun k => al.l0 k (vec f) 127 2) (vec (sm f)) := by
  have i1 := eT (s := 2) (m := 64) hf 64
  have i2 := eT (s := 4) (m := 32) i1 32
  have i3 := eT (s := 8) (m := 16) i2 16
  have i4 := eT (s := 16) (m := 8) i3 8
  have i5 := eT (s := 32) (m := 4) i4 4
  have i6 := eT (s := 64) (m := 2) i5 2
  have i7 := eT (s := 128) (m := 1) i6 1
  refine d6 2 64 (by decide) (by decide) (by decide) f hf ?_
  refine d6 4 32 (by decide) (by decide) (by decide) _ i1 ?_
  refine d6 8 16 (by decide) (by decide) (by decide) _ i2 ?_
  refine d6 16 8 (by decide) (by decide) (by decide) _ i3 ?_
  refine d6 32 4 (by decide) (by decide) (by decide) _ i4 ?_
  refine d6 64 2 (by decide) (by decide) (by decide) _ i5 ?_
  refine d6 128 1 (by decide) (by decide) (by decide) _ i6 ?_
  refine Ev.step (fun k => ?_) (mM _ i7)
  simp only [al.l0]
  rw [Ga (by decide)]
 unfold al.f
 have ok := eo (f := f) fun i _ => hf i
 have ln := bn f
 refine Ev.bind (ok ▸ dx (vec f)) (Ev.pos rfl ?_)
 simp only [Option.bind_some]
 refine Ev.pos (by rw [ln]; decide) ?_
 rw [List.nil_append]
 exact core
def gam (i : Nat) : Int := pw 17 (2 * t7s i 7 + 1)
theorem pU (i : Nat) : 0 ≤ gam i ∧ gam i ≤ 3328 := tC _ _
def mnE (a b : Nat → Int) (i : Nat) : Int := (a (2 * i) * b (2 * i) + a (2 * i + 1) * b (2 * i + 1) % 3329 * gam i) % 3329
def mnO (a b : Nat → Int) (i : Nat) : Int := (a (2 * i) * b (2 * i + 1) + a (2 * i + 1) * b (2 * i)) % 3329
def dm (a b : Nat → Int) (n : Nat) : Int := if n % 2 = 0 then mnE a b (n / 2) else mnO a b (n / 2)
theorem nI (a b : Nat → Int) (i : Nat) : dm a b (2 * i) = mnE a b i := by
 unfold dm; rw [Fa (by omega), show 2 * i / 2 = i by omega]
theorem nv (a b : Nat → Int) (i : Nat) : dm a b (2 * i + 1) = mnO a b i := by
 unfold dm; rw [Ga (by omega), show (2 * i + 1) / 2 = i by omega]
theorem pX (a b : Nat → Int) (n : Nat) : 0 ≤ dm a b n ∧ dm a b n ≤ 3328 := by
 unfold dm mnE mnO
 split
 ·exact fj _
 ·exact fj _
theorem tE (i : Nat) : wrap64 ((wrap64 (2 * ((t7s i 7 : Nat) : Int))) + 1) = ((2 * t7s i 7 + 1 : Nat) : Int) := by
 have h := na i
 have h1 : t7s i 7 ≤ 100000 := by omega
 have h2 : 2 * t7s i 7 < 9223372036854775807 := by omega
 rw [p7 _ h1, dI _ h2]
theorem pr (i : Nat) : 2 * t7s i 7 + 1 ≤ 1000000000 := by have := na i; omega
theorem tn (a b : Nat → Int) (ha : ∀ i, 0 ≤ a i ∧ a i ≤ 3328) (hb : ∀ i, 0 ≤ b i ∧ b i ≤ 3328) (i : Nat) :
  wrap64 ((wrap64 (a (2 * i) * b (2 * i))) + (wrap64 ((Int.tmod (wrap64 (a (2 * i + 1) * b (2 * i + 1))) 3329) * gam i))) = a (2 * i) * b (2 * i) + a (2 * i + 1) * b (2 * i + 1) % 3329 * gam i := by
 have h1 := f7 (ha (2 * i)) (hb (2 * i))
 have h2 := f7 (fj (a (2 * i + 1) * b (2 * i + 1))) (pU i)
 rw [jo (ha _) (hb _), ku (ha _) (hb _), ku (fj _) (pU i)]
 exact w64 (by omega) (by omega)
theorem pV (a b : Nat → Int) (ha : ∀ i, 0 ≤ a i ∧ a i ≤ 3328) (hb : ∀ i, 0 ≤ b i ∧ b i ≤ 3328) (i : Nat) : 0 ≤ a (2 * i) * b (2 * i) + a (2 * i + 1) * b (2 * i + 1) % 3329 * gam i ∧ a (2 * i) * b (2 * i) + a (2 * i + 1) * b (2 * i + 1) % 3329 * gam i ≤ 9223372036854775807 := by
 have h1 := f7 (ha (2 * i)) (hb (2 * i))
 have h2 := f7 (fj (a (2 * i + 1) * b (2 * i + 1))) (pU i)
 omega
theorem tv (a b : Nat → Int) (ha : ∀ i, 0 ≤ a i ∧ a i ≤ 3328) (hb : ∀ i, 0 ≤ b i ∧ b i ≤ 3328) (i : Nat) :
  wrap64 ((wrap64 (a (2 * i) * b (2 * i + 1))) + (wrap64 (a (2 * i + 1) * b (2 * i)))) = a (2 * i) * b (2 * i + 1) + a (2 * i + 1) * b (2 * i) := by
 have h1 := f7 (ha (2 * i)) (hb (2 * i + 1))
 have h2 := f7 (ha (2 * i + 1)) (hb (2 * i))
 rw [ku (ha _) (hb _), ku (ha _) (hb _)]
 exact w64 (by omega) (by omega)
theorem rT (a b : Nat → Int) (ha : ∀ i, 0 ≤ a i ∧ a i ≤ 3328) (hb : ∀ i, 0 ≤ b i ∧ b i ≤ 3328) (i : Nat) : 0 ≤ a (2 * i) * b (2 * i + 1) + a (2 * i + 1) * b (2 * i) ∧ a (2 * i) * b (2 * i + 1) + a (2 * i + 1) * b (2 * i) ≤ 9223372036854775807 := by
 have h1 := f7 (ha (2 * i)) (hb (2 * i + 1))
 have h2 := f7 (ha (2 * i + 1)) (hb (2 * i))
 omega
theorem ms (a b : Nat → Int) (ha : ∀ i, 0 ≤ a i ∧ a i ≤ 3328) (hb : ∀ i, 0 ≤ b i ∧ b i ≤ 3328) : Ev (fun k => br.f k (vec a) (vec b)) (vec (dm a b)) := by
 have core : Ev (fun k => br.l0 k (vec a) (vec b) (List.replicate 256 0) 0) (vec (dm a b)) := by
  rw [gz]
  have key := Ev.up (g := fun i k => br.l0 k (vec a) (vec b) (vec fun n => if n < 2 * i then dm a b n else 0) (i : Int)) (r := vec (dm a b)) 128 ?_ ?_ 0 (by omega)
  ·have e : (vec fun _ => (0 : Int)) = vec fun n => if n < 2 * 0 then dm a b n else 0 := dZ fun n _ => by rw [Ga (by omega)]
   rw [e]; exact key
  ·intro i hi h
   obtain ⟨K1, h1⟩ := ic i hi 
   obtain ⟨K2, h2⟩ := iM 17 (by decide) (2 * t7s i 7 + 1) (pr i)
   obtain ⟨K3, h3⟩ := h
   refine ⟨K1 + K2 + K3 + 1, fun k hk => ?_⟩
   obtain ⟨m, rfl⟩ : ∃ m, k = m + 1 := ⟨k - 1, by omega⟩
   have e1 : bD.f m (i : Int) = some ((t7s i 7 : Nat) : Int) := h1 m (by omega)
   have e2 : bG.f m 17 ((2 * t7s i 7 + 1 : Nat) : Int) = some (pw 17 (2 * t7s i 7 + 1)) := h2 m (by omega)
   have e3 := h3 m (by omega)
   have c0 : 2 * i < 256 := by omega
   have c1 : 2 * i + 1 < 256 := by omega
   have b0 : i ≤ 100000 := by omega
   have b1 : 2 * i < 9223372036854775807 := by omega
   have b2 : i < 9223372036854775807 := by omega
   have be := pV a b ha hb i
   have bo := rT a b ha hb i
   have bem : -9223372036854775808 ≤ a (2 * i) * b (2 * i) + a (2 * i + 1) * b (2 * i + 1) % 3329 * gam i := Int.le_trans (by decide) be.1
   have bom : -9223372036854775808 ≤ a (2 * i) * b (2 * i + 1) + a (2 * i + 1) * b (2 * i) := Int.le_trans (by decide) bo.1
   have ee : (vec fun n => if n = 2 * i + 1 then mnO a b i else if n = 2 * i then mnE a b i else if n < 2 * i then dm a b n else 0) = vec fun n => if n < 2 * (i + 1) then dm a b n else 0 := by
    refine dZ fun n _ => ?_
    by_cases h1 : n = 2 * i + 1
    ·subst h1; rw [Fa rfl, Fa (by omega), nv]
    ·rw [Ga h1]
     by_cases h2 : n = 2 * i
     ·subst h2; rw [Fa rfl, Fa (by omega), nI]
     ·rw [Ga h2]
      by_cases h3 : n < 2 * i
      ·rw [Fa h3, Fa (by omega)]
      ·rw [Ga h3, Ga (by omega)]
   clear h1 h2 h3 hk be
   simp only [br.l0]
   rw [Fa (show (i : Int) < 128 from Int.ofNat_lt.mpr hi), e1, Option.bind_some, tE, e2, Option.bind_some, p7 i b0, dI (2 * i) b1, Fa (Int.natCast_nonneg _), bn, bn, bn, Fa (Int.ofNat_lt.mpr c0), Fa (Int.natCast_nonneg _), Fa (Int.ofNat_lt.mpr c1), Fa (Int.ofNat_lt.mpr c0), Fa (Int.ofNat_lt.mpr c1),
    dM _ _ c0, dM _ _ c0, dM _ _ c1, dM _ _ c1]
   rw [show pw 17 (2 * t7s i 7 + 1) = gam i from rfl, tn a b ha hb i, tv a b ha hb i, gA _ bem (pV a b ha hb i).2, Option.bind_some, Fa (Int.ofNat_lt.mpr c0), gA _ bom bo.2, Option.bind_some, Fa (Int.ofNat_lt.mpr c1), Int.toNat_natCast, Int.toNat_natCast, fR, fR, dI i b2]
   rw [show (a (2 * i) * b (2 * i) + a (2 * i + 1) * b (2 * i + 1) % 3329 * gam i) % 3329 = mnE a b i from rfl, show (a (2 * i) * b (2 * i + 1) + a (2 * i + 1) * b (2 * i)) % 3329 = mnO a b i from rfl, ee]
   exact e3
  ·refine Ev.step (f := fun _ => some (vec fun n => if n < 2 * 128 then dm a b n else 0)) (fun k => ?_) ?_
   ·simp only [br.l0]
    rw [Ga (by decide)]
   ·rw [dZ (g := dm a b) fun n hn => Fa hn]; exact Ev.now _
 unfold br.f
 have oka := eo (f := a) fun i _ => ha i
 have okb := eo (f := b) fun i _ => hb i
 have la := bn a
 have lb := bn b
 refine Ev.bind (oka ▸ dJ (vec a) (by omega)) (Ev.pos rfl (Ev.bind (okb ▸ dJ (vec b) (by omega)) ?_))
 refine Ev.step (fun k => ?_) core
 simp only [br.j0]
 rw [Ga (by decide), Fa (by decide)]
theorem mv (a b : Nat → Int) (ha : ∀ i, 0 ≤ a i ∧ a i ≤ 3328) (hb : ∀ i, 0 ≤ b i ∧ b i ≤ 3328) : Ev (fun k => aH.f k (vec a) (vec b)) (vec (dm a b)) := by
 have core : Ev (fun k => aH.l0 k (vec a) (vec b) [] 0) (vec (dm a b)) := by
  refine Ev.up (g := fun i k => aH.l0 k (vec a) (vec b) ((vec (dm a b)).take (2 * i)) (i : Int)) (r := vec (dm a b)) 128 ?_ ?_ 0 (by omega)
  ·intro i hi h
   obtain ⟨K1, h1⟩ := il i hi 
   obtain ⟨K2, h2⟩ := iV 17 (by decide) (2 * t7s i 7 + 1) (pr i)
   obtain ⟨K3, h3⟩ := h
   refine ⟨K1 + K2 + K3 + 1, fun k hk => ?_⟩
   obtain ⟨m, rfl⟩ : ∃ m, k = m + 1 := ⟨k - 1, by omega⟩
   have e1 : bi.f m (i : Int) = some ((t7s i 7 : Nat) : Int) := h1 m (by omega)
   have e2 : bv.f m 17 ((2 * t7s i 7 + 1 : Nat) : Int) = some (pw 17 (2 * t7s i 7 + 1)) := h2 m (by omega)
   have e3 := h3 m (by omega)
   have c0 : 2 * i < 256 := by omega
   have c1 : 2 * i + 1 < 256 := by omega
   have b0 : i ≤ 100000 := by omega
   have b1 : 2 * i < 9223372036854775807 := by omega
   have b2 : i < 9223372036854775807 := by omega
   have be := pV a b ha hb i
   have bo := rT a b ha hb i
   have ln : (List.take (2 * i) (vec (dm a b))).length + [mnE a b i, mnO a b i].length < 17592186044416 := by show _ + 2 < _; rw [List.length_take, bn]; omega
   have ee : List.take (2 * i) (vec (dm a b)) ++ [mnE a b i, mnO a b i] = List.take (2 * (i + 1)) (vec (dm a b)) := by
    have t1 := gp (vec (dm a b)) (2 * i) (by rw [bn]; exact c0)
    have t2 := gp (vec (dm a b)) (2 * i + 1) (by rw [bn]; exact c1)
    rw [fQ, nI] at t1
    rw [fQ, nv] at t2
    rw [show 2 * (i + 1) = 2 * i + 1 + 1 by omega, ← t2, ← t1, List.append_assoc]
    rfl
   clear h1 h2 h3 hk
   simp only [aH.l0]
   rw [Fa (show (i : Int) < 128 from Int.ofNat_lt.mpr hi), e1, Option.bind_some, tE, e2, Option.bind_some, p7 i b0, dI (2 * i) b1, Fa (Int.natCast_nonneg _), bn, bn, Fa (Int.ofNat_lt.mpr c1), Fa (Int.ofNat_lt.mpr c1), Fa (Int.natCast_nonneg _), Fa (Int.ofNat_lt.mpr c0), Fa (Int.ofNat_lt.mpr c0),
    dM _ _ c0, dM _ _ c0, dM _ _ c1, dM _ _ c1, Option.bind_some]
   rw [show pw 17 (2 * t7s i 7 + 1) = gam i from rfl, tn a b ha hb i, tv a b ha hb i, Int.tmod_eq_emod_of_nonneg be.1, Int.tmod_eq_emod_of_nonneg bo.1, dI i b2]
   rw [show (a (2 * i) * b (2 * i) + a (2 * i + 1) * b (2 * i + 1) % 3329 * gam i) % 3329 = mnE a b i from rfl, show (a (2 * i) * b (2 * i + 1) + a (2 * i + 1) * b (2 * i)) % 3329 = mnO a b i from rfl]
   rw [Fa ln, ee]
   exact e3
  ·refine Ev.step (f := fun _ => some (List.take (2 * 128) (vec (dm a b)))) (fun k => ?_) ?_
   ·simp only [aH.l0]
    rw [Ga (by decide)]
   ·rw [List.take_of_length_le (by rw [bn]; decide)]; exact Ev.now _
 unfold aH.f
 have oka := eo (f := a) fun i _ => ha i
 have okb := eo (f := b) fun i _ => hb i
 simp only [Option.bind_some]
 refine Ev.bind (oka ▸ dx (vec a)) (Ev.pos rfl (Ev.bind (okb ▸ dx (vec b)) ?_))
 refine Ev.step (fun k => ?_) core
 simp only [aH.j0]
 rw [Ga (by decide)]
/-! a layer, place by place -/
def fS (s : ByteArray) : List (List Int) × Bool :=
 if (df (s.extract 0 384)).2 = true then
  if (df (s.extract 384 768)).2 = true then ([(df (s.extract 0 384)).1, (df (s.extract 384 768)).1], true) else ([], false)
 else ([], false)
theorem gx (s : ByteArray) (hs : 768 ≤ s.size) : Ev (fun k => bd.f k s) (fS s) := by
 unfold bd.f fS
 have e0 : wrap64 ((0 : Int) * 384) = 0 := by rw [w64 (by omega) (by omega)]; rfl
 have e2 : wrap64 ((0 : Int) + 1) = 1 := by rw [w64 (by omega) (by omega)]; rfl
 have e3 : wrap64 ((1 : Int) * 384) = 384 := by rw [w64 (by omega) (by omega)]; rfl
 have e5 : wrap64 ((1 : Int) + 1) = 2 := by rw [w64 (by omega) (by omega)]; rfl
 have e4 : wrap64 ((2 : Int) * 384) = 768 := by rw [w64 (by omega) (by omega)]; rfl
 refine Ev.step (f := fun k => (ct.f k (s.extract 0 384)).bind fun bt => (if bt.2 = true then (bd.l0 k s ([] ++ [bt.1]) 1) else (some ([], false)))) (fun k => ?_) ?_
 ·simp only [bd.l0, e0, e2, e3]
  rw [Fa (by omega), Fa (by omega), Fa (by omega), Fa (by omega)]
  simp only [Fa (show (([] : List (List Int)).length < 5864062014805) from (by rw [List.length_nil]; omega))]
  rfl
 refine Ev.bind (iD _) ?_
 by_cases h0 : (df (s.extract 0 384)).2 = true
 ·refine Ev.pos h0 ?_
  rw [Fa h0]
  refine Ev.step (f := fun k => (ct.f k (s.extract 384 768)).bind fun bt => (if bt.2 = true then (bd.l0 k s ([(df (s.extract 0 384)).1] ++ [bt.1]) 2) else (some ([], false)))) (fun k => ?_) ?_
  ·simp only [bd.l0, e3, e4, e5]
   rw [Fa (by omega), Fa (by omega), Fa (by omega), Fa (by omega)]
   rfl
  refine Ev.bind (iD _) ?_
  by_cases h1 : (df (s.extract 384 768)).2 = true
  ·refine Ev.pos h1 ?_
   rw [Fa h1]
   refine Ev.step (f := fun k => some ([(df (s.extract 0 384)).1] ++ [(df (s.extract 384 768)).1], true)) (fun k => ?_) (Ev.now _)
   simp only [bd.l0]
   rw [Ga (by omega)]
  ·rw [Ga h1]; exact Ev.neg h1 (Ev.now _)
 ·rw [Ga h0]; exact Ev.neg h0 (Ev.now _)
theorem gI (s : ByteArray) (hs : 768 ≤ s.size) : Ev (fun k => bp.f k s) (fS s) := by
 unfold bp.f fS
 have e0 : wrap64 ((0 : Int) * 384) = 0 := by rw [w64 (by omega) (by omega)]; rfl
 have e2 : wrap64 ((0 : Int) + 1) = 1 := by rw [w64 (by omega) (by omega)]; rfl
 have e3 : wrap64 ((1 : Int) * 384) = 384 := by rw [w64 (by omega) (by omega)]; rfl
 have e5 : wrap64 ((1 : Int) + 1) = 2 := by rw [w64 (by omega) (by omega)]; rfl
 have e4 : wrap64 ((2 : Int) * 384) = 768 := by rw [w64 (by omega) (by omega)]; rfl
 refine Ev.step (f := fun k => (cv.f k (s.extract 0 384)).bind fun bt => (if bt.2 = true then (bp.l0 k s ([] ++ [bt.1]) 1) else (some ([], false)))) (fun k => ?_) ?_
 ·simp only [bp.l0, e0, e2, e3]
  rw [Fa (by omega), Fa (by omega), Fa (by omega), Fa (by omega)]
  simp only [Fa (show (([] : List (List Int)).length < 5864062014805) from (by rw [List.length_nil]; omega))]
  rfl
 refine Ev.bind (iB _) ?_
 by_cases h0 : (df (s.extract 0 384)).2 = true
 ·refine Ev.pos h0 ?_
  rw [Fa h0]
  refine Ev.step (f := fun k => (cv.f k (s.extract 384 768)).bind fun bt => (if bt.2 = true then (bp.l0 k s ([(df (s.extract 0 384)).1] ++ [bt.1]) 2) else (some ([], false)))) (fun k => ?_) ?_
  ·simp only [bp.l0, e3, e4, e5]
   rw [Fa (by omega), Fa (by omega), Fa (by omega), Fa (by omega)]
   rfl
  refine Ev.bind (iB _) ?_
  by_cases h1 : (df (s.extract 384 768)).2 = true
  ·refine Ev.pos h1 ?_
   rw [Fa h1]
   refine Ev.step (f := fun k => some ([(df (s.extract 0 384)).1] ++ [(df (s.extract 384 768)).1], true)) (fun k => ?_) (Ev.now _)
   simp only [bp.l0]
   rw [Ga (by omega)]
  ·rw [Ga h1]; exact Ev.neg h1 (Ev.now _)
 ·rw [Ga h0]; exact Ev.neg h0 (Ev.now _)
def fZ (s : ByteArray) : Bool := if (s.size : Int) = 800 then (fS s).2 else false
theorem kQ (s : ByteArray) : Ev (fun k => cC.f k s) (fZ s) := by
 unfold cC.f fZ
 by_cases h : (s.size : Int) = 800
 ·rw [Fa h]; exact Ev.pos h (Ev.bind (gx s (by omega)) (Ev.now _))
 ·rw [Ga h]; exact Ev.neg h (Ev.now _)
theorem iK (s : ByteArray) : Ev (fun k => cB.f k s) (fZ s) := by
 unfold cB.f fZ
 by_cases h : (s.size : Int) = 800
 ·rw [Fa h]; exact Ev.pos h (Ev.bind (gI s (by omega)) (Ev.now _))
 ·rw [Ga h]; exact Ev.neg h (Ev.now _)
theorem lH (a b : Nat → Int) (ha : ∀ i, 0 ≤ a i ∧ a i ≤ 3328) (hb : ∀ i, 0 ≤ b i ∧ b i ≤ 3328) : Ev (fun k => aG.f k (vec a) (vec b)) (vec fun i => (a i + b i) % 3329) := by
 have oka : Ev (fun k => au.f k (vec a)) true := eo (f := a) (fun i _ => ha i) ▸ dx (vec a)
 have okb : Ev (fun k => au.f k (vec b)) true := eo (f := b) (fun i _ => hb i) ▸ dx (vec b)
 unfold aG.f
 refine Ev.up (g := fun i k => aG.l0 k (vec a) (vec b) ((vec fun i => (a i + b i) % 3329).take i) (i : Int)) (r := vec fun i => (a i + b i) % 3329) 256 ?_ ?_ 0 (by omega)
 ·intro i hi h
  obtain ⟨K1, h1⟩ := oka
  obtain ⟨K2, h2⟩ := okb
  obtain ⟨K3, h3⟩ := h
  refine ⟨K1 + K2 + K3 + 1, fun k hk => ?_⟩
  obtain ⟨m, rfl⟩ : ∃ m, k = m + 1 := ⟨k - 1, by omega⟩
  have e1 : au.f m (vec a) = some true := h1 m (by omega)
  have e2 : au.f m (vec b) = some true := h2 m (by omega)
  have e3 := h3 m (by omega)
  have ln : (List.take i (vec fun i => (a i + b i) % 3329)).length < 17592186044416 := by rw [List.length_take, bn]; omega
  have t1 := gp (vec fun i => (a i + b i) % 3329) i (by rw [bn]; exact hi)
  rw [fQ] at t1
  have hs : 0 ≤ a i + b i ∧ a i + b i ≤ 6656 := by have := ha i; have := hb i; omega
  have em : Int.tmod (wrap64 (a i + b i)) 3329 = (a i + b i) % 3329 := by
   rw [w64 (by omega) (by omega), Int.tmod_eq_emod_of_nonneg hs.1]
  simp only [aG.l0]
  rw [Fa (show (i : Int) < 256 from Int.ofNat_lt.mpr hi), e1, Option.bind_some, Fa rfl, e2, Option.bind_some, Fa rfl, Fa (Int.natCast_nonneg _), bn, bn, Fa (Int.ofNat_lt.mpr hi), Fa (Int.ofNat_lt.mpr hi), Fa ln, dM a i hi, dM b i hi, em, t1, dI i (Nat.lt_trans hi (by decide))]
  exact e3
 ·refine Ev.step (f := fun _ => some (List.take 256 (vec fun i => (a i + b i) % 3329))) (fun k => ?_) ?_
  ·simp only [aG.l0]
   rw [Ga (by decide)]
  ·rw [List.take_of_length_le (by rw [bn]; decide)]; exact Ev.now _
theorem lE (a b : Nat → Int) (ha : ∀ i, 0 ≤ a i ∧ a i ≤ 3328) (hb : ∀ i, 0 ≤ b i ∧ b i ≤ 3328) : Ev (fun k => aK.f k (vec a) (vec b)) (vec fun i => (a i - b i) % 3329) := by
 have oka : Ev (fun k => au.f k (vec a)) true := eo (f := a) (fun i _ => ha i) ▸ dx (vec a)
 have okb : Ev (fun k => au.f k (vec b)) true := eo (f := b) (fun i _ => hb i) ▸ dx (vec b)
 unfold aK.f
 simp only [Option.bind_some]
 refine Ev.bind oka (Ev.pos rfl (Ev.bind okb ?_))
 refine Ev.step (f := fun k => aK.l0 k (vec a) (vec b) [] 0) (fun k => ?_) ?_
 ·simp only [aK.j0]
  rw [Ga (by decide)]
 refine Ev.up (g := fun i k => aK.l0 k (vec a) (vec b) ((vec fun i => (a i - b i) % 3329).take i) (i : Int)) (r := vec fun i => (a i - b i) % 3329) 256 ?_ ?_ 0 (by omega)
 ·intro i hi h
  refine Ev.step (fun k => ?_) h
  have ln : (List.take i (vec fun i => (a i - b i) % 3329)).length < 17592186044416 := by rw [List.length_take, bn]; omega
  have t1 := gp (vec fun i => (a i - b i) % 3329) i (by rw [bn]; exact hi)
  rw [fQ] at t1
  have hs : -3328 ≤ a i - b i ∧ a i - b i ≤ 3328 := by have := ha i; have := hb i; omega
  have em : Int.tmod (wrap64 (wrap64 (a i - b i) + 3329)) 3329 = (a i - b i) % 3329 := by
   rw [w64 (x := a i - b i) (by omega) (by omega), w64 (by omega) (by omega), Int.tmod_eq_emod_of_nonneg (by omega)]; omega
  simp only [aK.l0]
  rw [Fa (show (i : Int) < 256 from Int.ofNat_lt.mpr hi), Fa (Int.natCast_nonneg _), bn, bn, Fa (Int.ofNat_lt.mpr hi), Fa (Int.ofNat_lt.mpr hi), Fa ln, dM a i hi, dM b i hi, em, t1, dI i (Nat.lt_trans hi (by decide))]
 ·refine Ev.step (f := fun _ => some (List.take 256 (vec fun i => (a i - b i) % 3329))) (fun k => ?_) ?_
  ·simp only [aK.l0]
   rw [Ga (by decide)]
  ·rw [List.take_of_length_le (by rw [bn]; decide)]; exact Ev.now _
def re (m : ByteArray) (i : Nat) : Int := dn (((bt m ((i / 8 : Nat) : Int)).toNat / 2 ^ (i % 8) % 2 : Nat) : Int) 1
def fo (m : ByteArray) : List Int := (List.range 256).map (re m)
theorem go (m : ByteArray) : (fo m).length = 256 := by simp [fo]
theorem np (m : ByteArray) (i : Nat) (h : i < (fo m).length) : (fo m)[i] = re m i := by simp [fo]
theorem sn (m : ByteArray) (i : Int) : bt m i = (((bt m i).toNat : Nat) : Int) ∧ (bt m i).toNat < 256 := by
 have := dU m i
 omega
theorem w8 (i : Nat) (h : i < 256) : wrap64 (Int.tdiv (i : Int) 8) = ((i / 8 : Nat) : Int) := by
 rw [Int.tdiv_eq_ediv_of_nonneg (by omega), w64 (by omega) (by omega)]; rfl
theorem m8 (i : Nat) : Int.tmod (i : Int) 8 = ((i % 8 : Nat) : Int) := by
 rw [Int.tmod_eq_emod_of_nonneg (by omega)]; rfl
theorem lG (m : ByteArray) (hm : m.size = 32) : Ev (fun k => bf.f k m) (fo m) := by
 unfold bf.f
 refine Ev.up (g := fun i k => bf.l0 k m ((fo m).take i) (i : Int)) (r := fo m) 256 ?_ ?_ 0 (by omega)
 ·intro i hi h
  have hb := sn m ((i / 8 : Nat) : Int)
  have c1 : i / 8 < m.size := by omega
  have ww : wrap64 (bt m ((i / 8 : Nat) : Int)) = (((bt m ((i / 8 : Nat) : Int)).toNat : Nat) : Int) := by
   rw [w64 (by omega) (by omega)]; exact hb.1
  have hlt := hb.2
  have ln : (List.take i (fo m)).length < 17592186044416 := by rw [List.length_take, go]; omega
  have t1 := gp (fo m) i (by rw [go]; exact hi)
  rw [np] at t1
  refine Ev.step (f := fun k => bf.l1 k m ((fo m).take i) (i : Int) (((bt m ((i / 8 : Nat) : Int)).toNat : Nat) : Int) 0) (fun k => ?_) ?_
  ·simp only [bf.l0]
   rw [Fa (show (i : Int) < 256 from Int.ofNat_lt.mpr hi), w8 i hi, Fa (Int.natCast_nonneg _), Fa (Int.ofNat_lt.mpr c1), ww]
  ·have hbit : re m i = dn (((bt m ((i / 8 : Nat) : Int)).toNat / 2 ^ (i % 8) % 2 : Nat) : Int) 1 := rfl
   rw [hbit] at t1
   clear hbit ww hb
   generalize (bt m ((i / 8 : Nat) : Int)).toNat = u at t1 hlt ⊢
   have key := Ev.up (g := fun j k => bf.l1 k m ((fo m).take i) (i : Int) ((u / 2 ^ j : Nat) : Int) (j : Int)) (r := fo m) (i % 8) ?_ ?_ 0 (by omega)
   ·simpa using key
   ·intro j hj h'
    refine Ev.step (fun k => ?_) h'
    have hle : u / 2 ^ j ≤ u := Nat.div_le_self _ _
    have e2 := jU (u / 2 ^ j) (by omega)
    have e5 : u / 2 ^ j / 2 = u / 2 ^ (j + 1) := by rw [Nat.div_div_eq_div_mul, Nat.pow_succ]
    simp only [bf.l1]
    rw [m8, Fa (Int.ofNat_lt.mpr hj), e2, e5, dI j (by omega)]
   ·refine Ev.step (f := fun k => (bA.f k ((u / 2 ^ (i % 8) % 2 : Nat) : Int) 1).bind fun t => bf.l0 k m ((fo m).take i ++ [t]) ((i + 1 : Nat) : Int)) (fun k => ?_) (Ev.bind (jc _ 1) ?_)
    ·simp only [bf.l1]
     rw [m8, Ga (Int.lt_irrefl _), ne, dI i (by omega)]
     simp only [Fa ln]
    ·rw [t1]
     exact h
 ·refine Ev.step (f := fun _ => some (fo m)) (fun k => ?_) (Ev.now _)
  simp only [bf.l0]
  rw [Ga (by decide), List.take_of_length_le (by rw [go]; decide)]
theorem mo (m : ByteArray) (hm : m.size = 32) : Ev (fun k => bJ.f k m) (fo m) := by
 unfold bJ.f
 refine Ev.pos (by decide) ?_
 simp only [Option.bind_some]
 rw [List.length_replicate]
 have e0 : List.take 0 (fo m) ++ List.replicate (256 - 0) (0 : Int) = List.replicate 256 0 := by rw [List.take_zero, List.nil_append]
 suffices key : Ev (fun k => bJ.l0 k m (List.take 0 (fo m) ++ List.replicate (256 - 0) 0) ((256 : Nat) : Int) ((0 : Nat) : Int)) (fo m) by rw [e0] at key; exact key
 refine Ev.up (g := fun i k => bJ.l0 k m ((fo m).take i ++ List.replicate (256 - i) 0) ((256 : Nat) : Int) (i : Int)) (r := fo m) 256 ?_ ?_ 0 (by omega)
 ·intro i hi h
  refine Ev.step (fun k => ?_) h
  have hb := sn m ((i / 8 : Nat) : Int)
  have hlt := hb.2
  have c1 : i / 8 < m.size := by omega
  have ew : wrap64 (Go.bits .and .u8 (shr .u8 (bt m ((i / 8 : Nat) : Int)) ((i % 8 : Nat) : Int)) 1) = (((bt m ((i / 8 : Nat) : Int)).toNat / 2 ^ (i % 8) % 2 : Nat) : Int) := by
   rw [hb.1]
   generalize (bt m ((i / 8 : Nat) : Int)).toNat = u at hlt ⊢
   have hle : u / 2 ^ (i % 8) ≤ u := Nat.div_le_self _ _
   have h2 : u / 2 ^ (i % 8) % 2 < 2 := Nat.mod_lt _ (by decide)
   rw [Int.toNat_natCast, lQ .u8 u (i % 8) (by simp [IntKind.bits]; omega), qm _ (by omega)]
   generalize u / 2 ^ (i % 8) % 2 = v at h2 ⊢
   exact w64 (by omega) (by omega)
  have hset := pn (fo m) 0 i (by rw [go]; exact hi)
  rw [np] at hset
  simp only [go] at hset
  have hlen : (List.take i (fo m) ++ List.replicate (256 - i) 0).length = 256 := by rw [List.length_append, List.length_take, go, List.length_replicate]; omega
  simp only [bJ.l0]
  rw [Fa (Int.ofNat_lt.mpr hi), w8 i hi, Fa (Int.natCast_nonneg _), Fa (Int.ofNat_lt.mpr c1), m8, Fa (Int.natCast_nonneg _), ew, iX, Option.bind_some, Fa (Int.natCast_nonneg _), hlen, Fa (Int.ofNat_lt.mpr hi), Int.toNat_natCast, show dn (((bt m ((i / 8 : Nat) : Int)).toNat / 2 ^ (i % 8) % 2 : Nat) : Int) 1 = re m i from rfl, hset, dI i (by omega)]
 ·refine Ev.step (f := fun _ => some (fo m)) (fun k => ?_) (Ev.now _)
  simp only [bJ.l0]
  rw [Ga (by decide), List.take_of_length_le (by rw [go]; decide), Nat.sub_self, List.replicate_zero, List.append_nil]
theorem kf (f : Int → Int) (l : List Int) (i : Nat) (h : i < l.length) : (l.take i).map f ++ [f l[i]] = (l.take (i + 1)).map f := by
 rw [← List.take_append_getElem h, List.map_append]; rfl
theorem map_set (f : Int → Int) (l : List Int) (i : Nat) (h : i < l.length) : ((l.take i).map f ++ l.drop i).set i (f l[i]) = (l.take (i + 1)).map f ++ l.drop (i + 1) := by
 rw [List.set_append_right _ _ (by rw [List.length_map, List.length_take]; omega), List.length_map, List.length_take, Nat.min_eq_left (by omega), Nat.sub_self, List.drop_eq_getElem_cons h, List.set_cons_zero, ← kf f l i h, List.append_assoc]
 rfl
theorem tX (f : Int → Int) (l : List Int) (i : Nat) (h : i < l.length) : rd ((l.take i).map f ++ l.drop i) (i : Int) = l[i] := by
 have hl : i < ((l.take i).map f ++ l.drop i).length := by simp; omega
 rw [dA _ _ hl, List.getElem_append_right (by rw [List.length_map, List.length_take]; omega)]
 simp only [List.length_map, List.length_take, Nat.min_eq_left (show i ≤ l.length by omega), Nat.sub_self, List.getElem_drop, Nat.add_zero]
def rN (s : ByteArray) (d : Int) : List Int := (dY s d 256).1.map fun y => dn y d
theorem fA (s : ByteArray) (d : Int) : Ev (fun k => aJ.f k s d) (rN s d) := by
 unfold aJ.f rN
 refine Ev.bind (jp s d 256) ?_
 have hl := gG s d 256
 generalize (dY s d 256).1 = l at hl ⊢
 refine Ev.up (g := fun i k => aJ.l0 k d ((l.take i).map (fun y => dn y d) ++ l.drop i) (i : Int)) (r := l.map fun y => dn y d) l.length ?_ ?_ 0 (by omega)
 ·intro i hi h
  have e := map_set (fun y => dn y d) l i hi
  have e2 := tX (fun y => dn y d) l i hi
  have hn : ((l.take i).map (fun y => dn y d) ++ l.drop i).length = l.length := by simp; omega
  refine Ev.step (f := fun k => (bA.f k l[i] d).bind fun t => aJ.l0 k d (((l.take i).map (fun y => dn y d) ++ l.drop i).set i t) ((i + 1 : Nat) : Int)) (fun k => ?_) (Ev.bind (jc l[i] d) ?_)
  ·simp only [aJ.l0]
   rw [hn, Fa (Int.ofNat_lt.mpr hi), Fa (Int.natCast_nonneg _), e2, Int.toNat_natCast, dI i (by omega)]
  ·rw [e]
   exact h
 ·refine Ev.step (f := fun _ => some (l.map fun y => dn y d)) (fun k => ?_) (Ev.now _)
  simp only [aJ.l0]
  rw [Ga (by simp)]
  simp
theorem gf (l : List Int) (d : Int) (hl : l.length ≤ 1000) : Ev (fun k => bj.f k l d) (l.map fun y => dn y d) := by
 unfold bj.f
 refine Ev.up (g := fun i k => bj.l0 k d ((l.take i).map fun y => dn y d) l (l.length : Int) (i : Int)) (r := l.map fun y => dn y d) l.length ?_ ?_ 0 (by omega)
 ·intro i hi h
  refine Ev.step (fun k => ?_) h
  have ln : ((l.take i).map fun y => dn y d).length < 17592186044416 := by rw [List.length_map, List.length_take]; omega
  simp only [bj.l0]
  rw [Fa (Int.ofNat_lt.mpr hi), Fa (Int.natCast_nonneg _), Fa (Int.ofNat_lt.mpr hi), dA l i hi, iX, Option.bind_some, Fa ln, kf (fun y => dn y d) l i hi, dI i (by omega)]
 ·refine Ev.step (f := fun _ => some (l.map fun y => dn y d)) (fun k => ?_) (Ev.now _)
  simp only [bj.l0]
  rw [Ga (by omega), List.take_of_length_le (by omega)]
def sqV (l : List Int) (d : Int) : List Int := l.map fun y => fm y d
theorem qq (l : List Int) (d : Nat) : (sqV l d).all (gY d) = true := by
 refine List.all_eq_true.mpr fun x hx => ?_
 obtain ⟨y, _, rfl⟩ := List.mem_map.mp hx
 refine ya ?_
 have e : (2 : Int) ^ (d : Int).toNat = 2 ^ d := by rw [Int.toNat_natCast]
 have hp : (1 : Int) ≤ 2 ^ d := by
  have h3 : (1 : Nat) ≤ 2 ^ d := Nat.one_le_two_pow
  have h4 : ((2 ^ d : Nat) : Int) = (2 : Int) ^ d := by simp
  omega
 by_cases h : (0 ≤ y ∧ y ≤ 3328) ∧ 1 ≤ (d : Int) ∧ (d : Int) ≤ 11
 ·rw [jm h.1 h.2, e]
  have := Int.emod_nonneg ((2 ^ d * y + 1664) / 3329) (show (2 : Int) ^ d ≠ 0 by omega)
  have := Int.emod_lt_of_pos ((2 ^ d * y + 1664) / 3329) (show (0 : Int) < 2 ^ d by omega)
  omega
 ·rw [gb h]
  omega
theorem eR (l : List Int) (d : Nat) (h1 : 1 ≤ d) (h2 : d ≤ 11) (hl : l.length ≤ 1000) : Ev (fun k => aM.f k l (d : Int)) (dX d (sqV l d)) := by
 unfold aM.f
 refine Ev.up (g := fun i k => aM.l0 k l (d : Int) ((l.take i).map fun y => fm y d) (i : Int)) (r := dX d (sqV l d)) l.length ?_ ?_ 0 (by omega)
 ·intro i hi h
  have ln : ((l.take i).map fun y => fm y d).length < 17592186044416 := by rw [List.length_map, List.length_take]; omega
  refine Ev.step (f := fun k => (bK.f k l[i] d).bind fun t => aM.l0 k l (d : Int) (((l.take i).map fun y => fm y d) ++ [t]) ((i + 1 : Nat) : Int)) (fun k => ?_) (Ev.bind (lB l[i] d) ?_)
  ·simp only [aM.l0]
   rw [Fa (Int.ofNat_lt.mpr hi), Fa (Int.natCast_nonneg _), dA l i hi, dI i (by omega)]
   simp only [Fa ln]
  ·rw [kf (fun y => fm y d) l i hi]
   exact h
 ·refine Ev.step (f := fun k => (aW.f k (sqV l d) (d : Int)).bind fun bt => some bt.1) (fun k => ?_) ?_
  ·simp only [aM.l0]
   rw [Ga (by omega), List.take_of_length_le (by omega)]
   rfl
  ·have e : nG (sqV l d) (d : Int) = (dX d (sqV l d), true) := by
    unfold nG
    rw [Int.toNat_natCast, Fa ⟨by omega, qq l d⟩]
   have hp := kj (sqV l d) (d : Int) (by unfold sqV; rw [List.length_map]; omega)
   rw [e] at hp
   exact Ev.bind hp (Ev.now _)
theorem fH (l : List Int) (d : Nat) (hl : l.length ≤ 1000) : Ev (fun k => bs.f k l (d : Int)) (sqV l d) := by
 unfold bs.f
 refine Ev.up (g := fun i k => bs.l0 k (d : Int) ((l.take i).map fun y => fm y d) l (l.length : Int) (i : Int)) (r := sqV l d) l.length ?_ ?_ 0 (by omega)
 ·intro i hi h
  refine Ev.step (fun k => ?_) h
  have ln : ((l.take i).map fun y => fm y d).length < 17592186044416 := by rw [List.length_map, List.length_take]; omega
  simp only [bs.l0]
  rw [Fa (Int.ofNat_lt.mpr hi), Fa (Int.natCast_nonneg _), Fa (Int.ofNat_lt.mpr hi), dA l i hi, lP, Option.bind_some, Fa ln, kf (fun y => fm y d) l i hi, dI i (by omega)]
 ·refine Ev.step (f := fun _ => some (sqV l d)) (fun k => ?_) (Ev.now _)
  simp only [bs.l0]
  rw [Ga (by omega), List.take_of_length_le (by omega)]
  rfl
theorem fw (l : List Int) (d : Nat) (h1 : 1 ≤ d) (h2 : d ≤ 11) (hl : l.length ≤ 1000) : Ev (fun k => aA.f k (sqV l d) (d : Int)) (dX d (sqV l d)) :=
 jl (sqV l d) d h1 (by omega) (by unfold sqV; rw [List.length_map]; omega) (qq l d)
theorem uJ : wrap64 ((0 : Int) * 320) = 0 ∧ wrap64 (0 + 1) = 1 ∧ wrap64 ((1 : Int) * 320) = 320 ∧ wrap64 (1 + 1) = 2 ∧ wrap64 ((2 : Int) * 320) = 640 := by
 refine ⟨?_, ?_, ?_, ?_, ?_⟩ <;> (rw [w64 (by decide) (by decide)]; rfl)
def W64 (x : Int) : Prop := 0 ≤ x ∧ x < 18446744073709551616
theorem gC (x : Int) : IntKind.u64.wrap x = x % 18446744073709551616 := IntKind.wrap_u64 x
theorem W64.mod (x : Int) : W64 (x % 18446744073709551616) := by unfold W64; omega
theorem W64.wrap (x : Int) : W64 (IntKind.u64.wrap x) := by rw [gC]; exact W64.mod _
theorem W64.xor (a b : Int) : W64 (Go.bits .xor .u64 a b) := W64.wrap _
theorem W64.or (a b : Int) : W64 (Go.bits .or .u64 a b) := W64.wrap _
theorem qu : ∀ n : Int, 0 ≤ n → n < 2 ^ 64 → IntKind.u64.wrap n = n := fun n h0 h1 => by rw [gC]; omega
theorem tN (i : Nat) (x y : Int) (hx : W64 x) (hi : x % 2 ^ i = 0) (hy : W64 y) (hyi : y < 2 ^ i) : Go.bits .or .u64 x y = x + y :=
 bits_join .u64 64 (by decide) qu i x y hx.1 hi (by have := hx.2; omega) hy.1 hyi (by have := hy.2; omega)
theorem uq (i : Nat) (x y : Int) (hx : W64 x) (hxi : x < 2 ^ i) (hy : W64 y) (hi : y % 2 ^ i = 0) : Go.bits .or .u64 x y = x + y := by
 have h : Go.bits .or .u64 x y = Go.bits .or .u64 y x := by
  show IntKind.u64.wrap (((BitVec.ofInt 64 x ||| BitVec.ofInt 64 y).toNat : Nat) : Int) = IntKind.u64.wrap (((BitVec.ofInt 64 y ||| BitVec.ofInt 64 x).toNat : Nat) : Int)
  rw [BitVec.or_comm]
 rw [h, tN i y x hy hi hx hxi, Int.add_comm]
theorem rF (a b : Nat) (ha : a < 2 ^ 64) (hb : b < 2 ^ 64) : Go.bits .xor .u64 (a : Int) (b : Int) = ((a ^^^ b : Nat) : Int) := by
 show IntKind.u64.wrap (((BitVec.ofInt 64 (a : Int) ^^^ BitVec.ofInt 64 (b : Int)).toNat : Nat) : Int) = _
 have e1 : (BitVec.ofInt 64 (a : Int) ^^^ BitVec.ofInt 64 (b : Int)).toNat = a ^^^ b := by
  rw [BitVec.toNat_xor, BitVec.toNat_ofInt, BitVec.toNat_ofInt]
  congr 1 <;> omega
 rw [e1]
 have := Nat.xor_lt_two_pow ha hb
 exact qu _ (by omega) (by omega)
theorem pa (x : Int) (h : W64 x) : Go.bits .xor .u64 0 x = x := by
 obtain ⟨n, rfl⟩ := Int.eq_ofNat_of_zero_le h.1
 have := rF 0 n (by omega) (by have := h.2; omega)
 rw [Nat.zero_xor] at this
 exact this
theorem r4 (e : Int) (h : W64 e) : IntKind.u64.wrap (18446744073709551615 - e) = mF e := by
 obtain ⟨n, rfl⟩ := Int.eq_ofNat_of_zero_le h.1
 have hn : n < 18446744073709551616 := by have := h.2; omega
 unfold mF
 show _ = IntKind.u64.wrap (((BitVec.ofInt 64 18446744073709551615 ^^^ BitVec.ofInt 64 (n : Int)).toNat : Nat) : Int)
 have h1 : (BitVec.ofInt 64 18446744073709551615 ^^^ BitVec.ofInt 64 (n : Int)).toNat = 18446744073709551615 - n := by
  have e1 : BitVec.ofInt 64 18446744073709551615 = BitVec.allOnes 64 := by decide
  rw [e1, BitVec.allOnes_xor, BitVec.toNat_not, BitVec.toNat_ofInt]
  omega
 rw [h1, gC, gC]
 omega
theorem ua (x : Int) (n : Nat) : W64 (jn x n) := W64.or _ _
theorem nL (x : Int) (h : W64 x) : jn x 0 = x := by
 unfold jn
 have h1 := h.1
 have h2 := h.2
 have e : x / 2 ^ (64 - 0) = 0 := Int.ediv_eq_zero_of_lt h1 (by simpa using h2)
 rw [e, gC, show x * 2 ^ 0 % 18446744073709551616 = x by omega, tN 0 x 0 h (by omega) ⟨by decide, by decide⟩ (by decide)]
 omega
/-- A iH turned left, by doubling. -/
theorem qO (x : Int) (n : Nat) (hn : n < 64) (r : Int) (h : Ev (fun k => bC.l0 k x (n : Int) ((2 ^ n : Nat) : Int) (n : Int)) r) : Ev (fun k => bC.f k x (n : Int)) r := by
 refine Ev.up (g := fun i k => bC.l0 k x (n : Int) ((2 ^ i : Nat) : Int) (i : Int)) n ?_ h 0 (Nat.zero_le _)
 intro i hi hh
 refine Ev.step (fun k => ?_) hh
 have hp : 2 ^ (i + 1) < 2 ^ 64 := Nat.pow_lt_pow_right (by decide) (by omega)
 simp only [bC.l0]
 rw [Fa (by omega), dI i (by omega), gC]
 congr 1
 rw [Nat.pow_succ] at hp ⊢
 omega
theorem qJ (x : Int) (n : Nat) (h : W64 x) (hn : n < 64) : Ev (fun k => bC.f k x (n : Int)) (jn x n) := by
 refine qO x n hn _ ?_
 refine Ev.step (f := fun _ => some (jn x n)) (fun k => ?_) (Ev.now _)
 simp only [bC.l0]
 rw [Ga (by omega)]
 by_cases h0 : n = 0
 ·subst h0
  rw [Fa (by rfl), nL x h]
 rw [Ga (by omega)]
 obtain ⟨A, hA⟩ : ∃ A : Nat, A = 2 ^ n := ⟨_, rfl⟩
 obtain ⟨B, hB⟩ : ∃ B : Nat, B = 2 ^ (64 - n) := ⟨_, rfl⟩
 obtain ⟨C, hC⟩ : ∃ C : Nat, C = 2 ^ (63 - n) := ⟨_, rfl⟩
 have hA0 : 0 < A := by rw [hA]; exact Nat.pow_pos (by decide)
 have hC0 : 0 < C := by rw [hC]; exact Nat.pow_pos (by decide)
 have hCA : C * A = 9223372036854775808 := by rw [hA, hC, ← Nat.pow_add, show 63 - n + n = 63 by omega]
 have hBC : B = C * 2 := by rw [hB, hC, show 64 - n = 63 - n + 1 by omega, Nat.pow_succ]
 have hA2 : A < 18446744073709551616 := by have h4 : 2 ^ n < 2 ^ 64 := Nat.pow_lt_pow_right (by decide) hn; omega
 have hC2 : C ≤ 4611686018427387904 := by
  have : C ≤ 2 ^ 62 := by rw [hC]; exact Nat.pow_le_pow_right (by decide) (by omega)
  omega
 rw [← hA, Ga (by omega)]
 have e1 : Int.tdiv (9223372036854775808 : Int) (A : Int) = (C : Int) := by
  rw [Int.tdiv_eq_ediv_of_nonneg (by decide), show (9223372036854775808 : Int) = ((C * A : Nat) : Int) by rw [hCA]; rfl]
  rw [← Int.natCast_ediv, Nat.mul_div_cancel _ hA0]
 have e2 : IntKind.u64.wrap ((IntKind.u64.wrap (C : Int)) * 2) = (B : Int) := by rw [gC, gC]; omega
 rw [e1, e2, Ga (by omega)]
 have hx1 := h.1
 have hx2 := h.2
 rw [Int.tdiv_eq_ediv_of_nonneg hx1]
 obtain ⟨m, rfl⟩ := Int.eq_ofNat_of_zero_le hx1
 have hm : m < 18446744073709551616 := by omega
 have hBA : B * A = 18446744073709551616 := by rw [hBC, Nat.mul_assoc, Nat.mul_comm 2 A, ← Nat.mul_assoc, hCA]
 have hd : m / B < A := Nat.div_lt_of_lt_mul (by rw [hBA]; exact hm)
 have hlow : m * A % 18446744073709551616 = (m % B) * A := by
  rw [← hBA, Nat.mul_mod_mul_right]
 have hAi : (2 : Int) ^ n = (A : Int) := by rw [hA, Int.natCast_pow]; rfl
 have hBi : (2 : Int) ^ (64 - n) = (B : Int) := by rw [hB, Int.natCast_pow]; rfl
 have hq : ((m : Int) / 2 ^ (64 - n)) = ((m / B : Nat) : Int) := by rw [hBi, ← Int.natCast_ediv]
 have hp2 : IntKind.u64.wrap ((m : Int) * (A : Int)) = (((m % B) * A : Nat) : Int) := by
  rw [gC, ← hlow, ← Int.natCast_mul]
  generalize m * A = z
  omega
 have hp : IntKind.u64.wrap ((m : Int) * 2 ^ n) = (((m % B) * A : Nat) : Int) := by rw [hAi, hp2]
 have hlt : (m % B) * A < 18446744073709551616 := by rw [← hlow]; exact Nat.mod_lt _ (by decide)
 have hsum : (m % B) * A + m / B < 18446744073709551616 := by
  have h3 : (m % B + 1) * A ≤ B * A := Nat.mul_le_mul_right _ (Nat.mod_lt _ (by omega))
  rw [hBA, Nat.add_mul, Nat.one_mul] at h3
  omega
 unfold jn
 rw [hp, hp2, hq]
 have hmn : (((m % B) * A : Nat) : Int) % 2 ^ n = 0 := by rw [hAi, ← Int.natCast_emod, Nat.mul_mod_left]; rfl
 rw [← Int.natCast_ediv]
 generalize (m % B) * A = z at hlt hsum hmn ⊢
 generalize m / B = y at hd hsum ⊢
 rw [tN n (z : Int) (y : Int) ⟨by omega, by omega⟩ hmn ⟨by omega, by omega⟩ (by rw [hAi]; omega), gC, gC]
 congr 1
 omega
theorem gi (l : List Int) (i j : Nat) (v : Int) (hi : i < l.length) : rd (l.set i v) (j : Int) = if j = i then v else rd l (j : Int) := by
 rw [kI, kI, List.getD_eq_getElem?_getD, List.getD_eq_getElem?_getD, List.getElem?_set]
 by_cases h : i = j
 ·subst h
  rw [Fa rfl, Fa rfl, Fa hi]; rfl
 ·rw [Ga h, Ga (Ne.symm h)]
theorem gU (n j : Nat) : rd (List.replicate n 0) (j : Int) = 0 := by
 rw [kI, List.getD_eq_getElem?_getD]
 by_cases h : j < n
 ·rw [List.getElem?_replicate_of_lt h]; rfl
 ·rw [List.getElem?_eq_none (by rw [List.length_replicate]; omega)]; rfl
theorem jx {l u : List Int} (h : l.length = u.length) (hr : ∀ i : Nat, i < l.length → rd l (i : Int) = rd u (i : Int)) : l = u := by
 apply List.ext_getElem h
 intro i h1 h2
 have := hr i h1
 rw [dA l i h1, dA u i h2] at this
 exact this
theorem mI {P : Int → Prop} {l : List Int} (h : ∀ x ∈ l, P x) (i : Nat) (hi : i < l.length) : P (rd l (i : Int)) := by
 rw [dA l i hi]; exact h _ (List.getElem_mem hi)
def xr (a b : Int) : Int := Go.bits .xor .u64 a b
/-- A column's sum, n of its lanes. -/
def sO (a : List Int) (x : Nat) : Nat → Int
 | 0 => 0
 | n + 1 => xr (sO a x n) (rd a ((x + 5 * n : Nat) : Int))
theorem oC (a : List Int) (x : Nat) (hx : x < 5) : ∀ m, rd (thC a m) (x : Int) = sO a x ((m + 4 - x) / 5)
 | 0 => by
  rw [show (0 + 4 - x) / 5 = 0 by omega]
  exact gU 5 x
 | m + 1 => by
  simp only [thC]
  rw [gi _ _ _ _ (by rw [ka]; omega), oC a x hx m]
  by_cases h : x = m % 5
  ·rw [Fa h, ← h, oC a x hx m, show (m + 1 + 4 - x) / 5 = (m + 4 - x) / 5 + 1 by omega]
   simp only [sO, xr]
   rw [show x + 5 * ((m + 4 - x) / 5) = m by omega]
  ·rw [Ga h, show (m + 1 + 4 - x) / 5 = (m + 4 - x) / 5 by omega]
/-- What is mixed into column x. -/
def pK (c : List Int) (x : Nat) : Int := xr (rd c (((x + 4) % 5 : Nat) : Int)) (jn (rd c (((x + 1) % 5 : Nat) : Int)) 1)
theorem pG (a c : List Int) (i : Nat) : ∀ m, m ≤ a.length → rd (thA a c m) (i : Int) = if i < m then xr (rd a (i : Int)) (pK c (i % 5)) else rd a (i : Int)
 | 0, _ => by rw [Ga (by omega)]; rfl
 | m + 1, h => by
  simp only [thA]
  rw [gi _ _ _ _ (by rw [lV]; omega), pG a c i m (by omega)]
  by_cases e : i = m
  ·subst e
   rw [Fa rfl, Fa (by omega), pG a c i i (by omega), Ga (by omega)]
   rfl
  ·rw [Ga e]
   by_cases e2 : i < m
   ·rw [Fa e2, Fa (by omega)]
   ·rw [Ga e2, Ga (by omega)]
theorem pD (a : List Int) (i : Nat) : ∀ m, m ≤ 25 → rd (chA a m) (i : Int) = if i < m then xr (rd a (i : Int)) (Go.bits .and .u64 (mF (rd a (((i % 5 + 1) % 5 + 5 * (i / 5) : Nat) : Int))) (rd a (((i % 5 + 2) % 5 + 5 * (i / 5) : Nat) : Int))) else 0
 | 0, _ => by rw [Ga (by omega)]; exact gU 25 i
 | m + 1, h => by
  simp only [chA]
  rw [gi _ _ _ _ (by rw [g9]; omega), pD a i m (by omega)]
  by_cases e : i = m
  ·subst e
   rw [Fa rfl, Fa (by omega)]
   rfl
  ·rw [Ga e]
   by_cases e2 : i < m
   ·rw [Fa e2, Fa (by omega)]
   ·rw [Ga e2, Ga (by omega)]
/-- Where the lane at (x, y) iQ. -/
def iQ (x y : Nat) : Nat := y + 5 * ((2 * x + 3 * y) % 5)
theorem rr : ∀ x < 5, ∀ y < 5, ∀ u < 5, ∀ v < 5, iQ x y = iQ u v → x = u ∧ y = v := by
 intro x hx y hy u hu v hv h
 unfold iQ at h
 have e : y = v := by omega
 subst e
 have e2 : (2 * x + 3 * y) % 5 = (2 * u + 3 * y) % 5 := by omega
 clear h
 omega
theorem qE (x y : Nat) (hy : y < 5) : iQ x y < 25 := by unfold iQ; omega
theorem oJ : ∀ i < 25, ∃ x < 5, ∃ y < 5, iQ x y = i := by decide
def gn : List Int := [0, 1, 62, 28, 27, 36, 44, 6, 55, 20, 3, 10, 43, 25, 39, 41, 45, 15, 21, 8, 18, 2, 61, 56, 14]
theorem qC : ∀ t < 24, (fD (t + 1)).1 + 5 * (fD (t + 1)).2 ≠ 0 := by decide
theorem tG : ∀ s < 24, ∀ t < 24, (fD (s + 1)).1 + 5 * (fD (s + 1)).2 = (fD (t + 1)).1 + 5 * (fD (t + 1)).2 → s = t := by decide
theorem r5 (a : List Int) (s : Nat) (hs : s < 24) : ∀ t, t ≤ 24 → rd (rpA a t) (((fD (s + 1)).1 + 5 * (fD (s + 1)).2 : Nat) : Int) = if s < t then jn (rd a (((fD s).1 + 5 * (fD s).2 : Nat) : Int)) (rpN s) else 0
 | 0, _ => by
  rw [Ga (by omega)]
  simp only [rpA]
  rw [gi _ _ _ _ (by decide), Ga (qC s hs)]
  exact gU 25 _
 | t + 1, h => by
  simp only [rpA]
  have hl := oq (t + 1)
  rw [gi _ _ _ _ (by rw [iL]; omega), r5 a s hs t (by omega)]
  by_cases e : s = t
  ·subst e
   rw [Fa rfl, Fa (by omega)]
  ·rw [Ga (fun h2 => e (tG s hs t (by omega) h2))]
   by_cases e2 : s < t
   ·rw [Fa e2, Fa (by omega)]
   ·rw [Ga e2, Ga (by omega)]
theorem qK (a : List Int) : ∀ t, t ≤ 24 → rd (rpA a t) ((0 : Nat) : Int) = rd a ((0 : Nat) : Int)
 | 0, _ => by
  simp only [rpA]
  rw [gi _ _ _ _ (by decide), Fa rfl]
 | t + 1, h => by
  simp only [rpA]
  have hl := oq (t + 1)
  rw [gi _ _ _ _ (by rw [iL]; omega), Ga (Ne.symm (qC t (by omega))), qK a t (by omega)]
theorem sJ : ∀ x < 5, ∀ y < 5, (x = 0 ∧ y = 0) ∨ ∃ t < 24, (fD t).1 = x ∧ (fD t).2 = y ∧ iQ x y = (fD (t + 1)).1 + 5 * (fD (t + 1)).2 ∧ rd gn ((x + 5 * y : Nat) : Int) = ((rpN t : Nat) : Int) ∧ rpN t < 64 := by decide
/-- A lane turned and moved. -/
theorem oQ (a : List Int) (ha : ∀ x ∈ a, W64 x) (hl : a.length = 25) (x y : Nat) (hx : x < 5) (hy : y < 5) : ∃ n < 64, rd gn ((x + 5 * y : Nat) : Int) = ((n : Nat) : Int) ∧ rd (eN.v a) ((iQ x y : Nat) : Int) = jn (rd a ((x + 5 * y : Nat) : Int)) n := by
 rcases sJ x hx y hy with ⟨rfl, rfl⟩ | ⟨t, ht, h1, h2, h3, h4, h5⟩
 ·refine ⟨0, by decide, by decide, ?_⟩
  rw [nL _ (mI ha _ (by omega))]
  exact qK a 24 (Ca _)
 ·refine ⟨rpN t, h5, h4, ?_⟩
  rw [h3, eN.v, r5 a t ht 24 (Ca _), Fa ht, h1, h2]
theorem o4 (a : List Int) (hl : a.length = 25) (i : Nat) (hi : i < 25) : rd (d5.v a) (i : Int) = xr (rd a (i : Int)) (pK (thC a 25) (i % 5)) := by
 unfold d5.v
 rw [pG a _ i 25 (by omega), Fa hi]
theorem oo {P : Int → Prop} {l : List Int} (h : ∀ i : Nat, i < l.length → P (rd l (i : Int))) : ∀ x ∈ l, P x := by
 intro x hx
 obtain ⟨i, hi, rfl⟩ := List.mem_iff_getElem.mp hx
 have := h i hi
 rw [dA l i hi] at this
 exact this
theorem te (a : List Int) (hl : a.length = 25) : ∀ x ∈ d5.v a, W64 x :=
 oo fun i hi => by rw [o4 a hl i (by rw [kN a hl] at hi; exact hi)]; exact W64.xor _ _
theorem uj (a : List Int) : ∀ x ∈ eA.v a, W64 x :=
 oo fun i hi => by
  unfold eA.v at hi ⊢
  rw [g9] at hi
  rw [pD a i 25 (Ca _), Fa hi]; exact W64.xor _ _
theorem uc (a : List Int) (j : Nat) (hj : j < 5) : W64 (rd (thC a 25) (j : Int)) := by
 rw [oC a j hj 25, show (25 + 4 - j) / 5 = 5 by omega]
 exact W64.xor _ _
/-- The columns' je, as the reference makes them. -/
def cL (a : List Int) : Nat → List Int
 | 0 => List.replicate 5 0
 | i + 1 => (cL a i).set i (xr (xr (xr (xr (rd a (i : Int)) (rd a ((i + 5 : Nat) : Int))) (rd a ((i + 10 : Nat) : Int))) (rd a ((i + 15 : Nat) : Int))) (rd a ((i + 20 : Nat) : Int)))
theorem me (a : List Int) : ∀ i, (cL a i).length = 5
 | 0 => rfl
 | i + 1 => by simp only [cL, List.length_set, me a i]
theorem tF (a : List Int) (j : Nat) : ∀ i, i ≤ 5 → j < i → rd (cL a i) (j : Int) = xr (xr (xr (xr (rd a (j : Int)) (rd a ((j + 5 : Nat) : Int))) (rd a ((j + 10 : Nat) : Int))) (rd a ((j + 15 : Nat) : Int))) (rd a ((j + 20 : Nat) : Int))
 | 0, _, h => absurd h (by omega)
 | i + 1, h, hj => by
  simp only [cL]
  rw [gi _ _ _ _ (by rw [me]; omega)]
  by_cases e : j = i
  ·subst e; rw [Fa rfl]
  ·rw [Ga e, tF a j i (by omega) (by omega)]
theorem tW (a : List Int) (hl : a.length = 25) (ha : ∀ x ∈ a, W64 x) : cL a 5 = thC a 25 := by
 apply jx (by rw [me, ka])
 intro i hi
 rw [me] at hi
 rw [tF a i 5 (Ca _) hi, oC a i hi 25, show (25 + 4 - i) / 5 = 5 by omega]
 simp only [sO, xr]
 rw [show i + 5 * 0 = i by omega, pa _ (mI ha i (by omega))]
/-- The lanes turned and moved, n of them, as the reference makes them. -/
def bL (a : List Int) : Nat → List Int
 | 0 => List.replicate 25 0
 | n + 1 => (bL a n).set (iQ (n / 5) (n % 5)) (jn (xr (rd a ((n / 5 + 5 * (n % 5) : Nat) : Int)) (pK (thC a 25) (n / 5))) (rd gn ((n / 5 + 5 * (n % 5) : Nat) : Int)).toNat)
theorem jW (a : List Int) : ∀ i, (bL a i).length = 25
 | 0 => rfl
 | i + 1 => by simp only [bL, List.length_set, jW a i]
theorem ro (a : List Int) (x y : Nat) (hx : x < 5) (hy : y < 5) : ∀ n, n ≤ 25 → 5 * x + y < n → rd (bL a n) ((iQ x y : Nat) : Int) = jn (xr (rd a ((x + 5 * y : Nat) : Int)) (pK (thC a 25) x)) (rd gn ((x + 5 * y : Nat) : Int)).toNat
 | 0, _, h => absurd h (by omega)
 | n + 1, h, hj => by
  simp only [bL]
  rw [gi _ _ _ _ (by rw [jW]; exact qE _ _ (by omega))]
  by_cases e : 5 * x + y = n
  ·have e1 : n / 5 = x := by omega
   have e2 : n % 5 = y := by omega
   rw [e1, e2, Fa rfl]
  ·rw [Ga (fun h2 => by have := rr x hx y hy (n / 5) (by omega) (n % 5) (by omega) h2; omega), ro a x y hx hy n (by omega) (by omega)]
theorem si (a : List Int) (hl : a.length = 25) : bL a 25 = eN.v (d5.v a) := by
 apply jx (by rw [jW, nb])
 intro i hi
 rw [jW] at hi
 obtain ⟨x, hx, y, hy, rfl⟩ := oJ i hi
 obtain ⟨n, hn, h1, h2⟩ := oQ (d5.v a) (te a hl) (kN a hl) x y hx hy
 rw [ro a x y hx hy 25 (Ca _) (by omega), h1, h2, o4 a hl _ (by omega), show (x + 5 * y) % 5 = x by omega, Int.toNat_natCast]
/-- The rows mixed, n lanes, as the reference makes them. -/
def hL (b : List Int) : Nat → List Int
 | 0 => List.replicate 25 0
 | n + 1 => (hL b n).set (n / 5 + 5 * (n % 5)) (xr (rd b ((n / 5 + 5 * (n % 5) : Nat) : Int)) (Go.bits .and .u64 (mF (rd b (((n / 5 + 1) % 5 + 5 * (n % 5) : Nat) : Int))) (rd b (((n / 5 + 2) % 5 + 5 * (n % 5) : Nat) : Int))))
theorem kO (b : List Int) : ∀ i, (hL b i).length = 25
 | 0 => rfl
 | i + 1 => by simp only [hL, List.length_set, kO b i]
theorem tA (b : List Int) (x y : Nat) (hx : x < 5) (hy : y < 5) : ∀ n, n ≤ 25 → 5 * x + y < n → rd (hL b n) ((x + 5 * y : Nat) : Int) = xr (rd b ((x + 5 * y : Nat) : Int)) (Go.bits .and .u64 (mF (rd b (((x + 1) % 5 + 5 * y : Nat) : Int))) (rd b (((x + 2) % 5 + 5 * y : Nat) : Int)))
 | 0, _, h => absurd h (by omega)
 | n + 1, h, hj => by
  simp only [hL]
  rw [gi _ _ _ _ (by rw [kO]; omega)]
  by_cases e : 5 * x + y = n
  ·have e1 : n / 5 = x := by omega
   have e2 : n % 5 = y := by omega
   rw [e1, e2, Fa rfl]
  ·rw [Ga (by omega), tA b x y hx hy n (by omega) (by omega)]
theorem t7 (b : List Int) : hL b 25 = eA.v b := by
 apply jx (by rw [kO]; exact (g9 _ _).symm)
 intro i hi
 rw [kO] at hi
 have h1 := tA b (i % 5) (i / 5) (by omega) (by omega) 25 (Ca _) (by omega)
 rw [show i % 5 + 5 * (i / 5) = i by omega] at h1
 rw [h1, eA.v, pD b i 25 (Ca _), Fa hi]
def qd (a : List Int) (rc : Int) : List Int := (fP a).set 0 (Go.bits .xor .u64 (rd (fP a) ((0 : Nat) : Int)) rc)
theorem rC (b : List Int) (hb : b.length = 25) (hw : ∀ x ∈ b, W64 x) (rc : Int) : Ev (fun k => ac.l3 k rc b (List.replicate 25 0) 0) ((eA.v b).set 0 (Go.bits .xor .u64 (rd (eA.v b) ((0 : Nat) : Int)) rc)) := by
 refine Ev.up (g := fun i k => ac.l3 k rc b (hL b (5 * i)) (i : Int)) 5 ?_ ?_ 0 (Nat.zero_le _)
 ·intro x hx hh
  refine Ev.step (f := fun k => ac.l4 k rc b (hL b (5 * x)) (x : Int) 0) (fun k => ?_) ?_
  ·simp only [ac.l3]
   rw [Fa (by omega)]
  ·refine Ev.up (g := fun j k => ac.l4 k rc b (hL b (5 * x + j)) (x : Int) (j : Int)) 5 ?_ ?_ 0 (Nat.zero_le _)
   ·intro y hy h2
    refine Ev.step (fun k => ?_) h2
    have e1 : wrap64 ((x : Int) + wrap64 (5 * (y : Int))) = ((x + 5 * y : Nat) : Int) := by
     rw [w64 (x := 5 * (y : Int)) (by omega) (by omega), w64 (by omega) (by omega)]; omega
    have e2 : wrap64 (Int.tmod (wrap64 ((x : Int) + 1)) 5 + wrap64 (5 * (y : Int))) = (((x + 1) % 5 + 5 * y : Nat) : Int) := by
     rw [w64 (x := (x : Int) + 1) (by omega) (by omega), w64 (x := 5 * (y : Int)) (by omega) (by omega), Int.tmod_eq_emod_of_nonneg (by omega), w64 (by omega) (by omega)]; omega
    have e3 : wrap64 (Int.tmod (wrap64 ((x : Int) + 2)) 5 + wrap64 (5 * (y : Int))) = (((x + 2) % 5 + 5 * y : Nat) : Int) := by
     rw [w64 (x := (x : Int) + 2) (by omega) (by omega), w64 (x := 5 * (y : Int)) (by omega) (by omega), Int.tmod_eq_emod_of_nonneg (by omega), w64 (by omega) (by omega)]; omega
    simp only [ac.l4, e1, e2, e3]
    have hl := kO b (5 * x + y)
    rw [Fa (by omega), Fa (by omega), Fa (by omega), Fa (by omega), Fa (by omega), Fa (by omega), Fa (by omega), Fa (by omega), dI y (by omega), r4 _ (mI hw _ (by omega)), Int.toNat_natCast]
    congr 1
    show _ = hL b (5 * x + y + 1)
    simp only [hL, xr]
    rw [show (5 * x + y) / 5 = x by omega, show (5 * x + y) % 5 = y by omega]
   ·refine Ev.step (fun k => ?_) hh
    simp only [ac.l4]
    rw [Ga (by omega), dI x (by omega)]
    rfl
 ·refine Ev.step (f := fun _ => some ((eA.v b).set 0 (Go.bits .xor .u64 (rd (eA.v b) ((0 : Nat) : Int)) rc))) (fun k => ?_) (Ev.now _)
  simp only [ac.l3]
  have hl := kO b 25
  rw [Ga (by omega), show 5 * 5 = 25 from rfl, Fa (by omega), t7]
  rfl
theorem tg (x y : Nat) (hx : x < 5) (hy : y < 5) : wrap64 ((y : Int) + wrap64 (5 * Int.tmod (wrap64 (wrap64 (2 * (x : Int)) + wrap64 (3 * (y : Int)))) 5)) = ((iQ x y : Nat) : Int) := by
 have h1 : wrap64 (2 * (x : Int)) = 2 * (x : Int) := w64 (by omega) (by omega)
 have h2 : wrap64 (3 * (y : Int)) = 3 * (y : Int) := w64 (by omega) (by omega)
 have h3 : wrap64 (2 * (x : Int) + 3 * (y : Int)) = 2 * (x : Int) + 3 * (y : Int) := w64 (by omega) (by omega)
 rw [h1, h2, h3, Int.tmod_eq_emod_of_nonneg (by omega)]
 have h4 : wrap64 (5 * ((2 * (x : Int) + 3 * (y : Int)) % 5)) = 5 * ((2 * (x : Int) + 3 * (y : Int)) % 5) := w64 (by omega) (by omega)
 rw [h4, w64 (by omega) (by omega)]
 unfold iQ
 omega
theorem sE (x y : Nat) (hx : x < 5) (hy : y < 5) : wrap64 ((x : Int) + wrap64 (5 * (y : Int))) = ((x + 5 * y : Nat) : Int) := by
 have h1 : wrap64 (5 * (y : Int)) = 5 * (y : Int) := w64 (by omega) (by omega)
 rw [h1, w64 (by omega) (by omega)]
 omega
theorem ru (a c T : List Int) (B : Nat → List Int) (hl : a.length = 25) (rc : Int) (r : List Int) (hc : c.length = 5) (hcw : ∀ j : Nat, j < 5 → W64 (rd c (j : Int))) (htl : T.length = 25)
  (hT : ∀ x y : Nat, x < 5 → y < 5 → ∃ n < 64, rd T ((x + 5 * y : Nat) : Int) = ((n : Nat) : Int)) (hB0 : B 0 = List.replicate 25 0) (hBl : ∀ n, (B n).length = 25)
  (hBs : ∀ x y : Nat, x < 5 → y < 5 → B (5 * x + y + 1) = (B (5 * x + y)).set (iQ x y) (jn (xr (rd a ((x + 5 * y : Nat) : Int)) (pK c x)) (rd T ((x + 5 * y : Nat) : Int)).toNat))
  (h : Ev (fun k => ac.l3 k rc (B 25) (List.replicate 25 0) 0) r) : Ev (fun k => ac.l1 k a T rc c (List.replicate 25 0) 0) r := by
 rw [← hB0]
 refine Ev.up (g := fun i k => ac.l1 k a T rc c (B (5 * i)) (i : Int)) 5 ?_ ?_ 0 (Nat.zero_le _)
 ·intro x hx hh
  have e1 : Int.tmod (wrap64 ((x : Int) + 4)) 5 = (((x + 4) % 5 : Nat) : Int) := by
   rw [w64 (x := (x : Int) + 4) (by omega) (by omega), Int.tmod_eq_emod_of_nonneg (by omega)]; omega
  have e2 : Int.tmod (wrap64 ((x : Int) + 1)) 5 = (((x + 1) % 5 : Nat) : Int) := by
   rw [w64 (x := (x : Int) + 1) (by omega) (by omega), Int.tmod_eq_emod_of_nonneg (by omega)]; omega
  refine Ev.step (f := fun k => (bC.f k (rd c (((x + 1) % 5 : Nat) : Int)) ((1 : Nat) : Int)).bind fun t => ac.l2 k a T rc c (B (5 * x)) (x : Int) (Go.bits .xor .u64 (rd c (((x + 4) % 5 : Nat) : Int)) t) ((0 : Nat) : Int)) (fun k => ?_) ?_
  ·simp only [ac.l1, e1, e2]
   rw [Fa (by omega), Fa (by omega), Fa (by omega), Fa (by omega), Fa (by omega)]
   rfl
  ·refine Ev.bind (qJ _ 1 (hcw _ (by omega)) (by decide)) ?_
   have hm : Go.bits .xor .u64 (rd c (((x + 4) % 5 : Nat) : Int)) (jn (rd c (((x + 1) % 5 : Nat) : Int)) 1) = pK c x := rfl
   rw [hm]
   clear hm e1 e2
   have hB2 := fun y hy => hBs x y hx hy
   generalize pK c x = D at hB2 ⊢
   refine Ev.up (g := fun j k => ac.l2 k a T rc c (B (5 * x + j)) (x : Int) D (j : Int)) 5 ?_ ?_ 0 (Nat.zero_le _)
   ·intro y hy h2
    have hg := qE x y hy
    have hbl := hBl (5 * x + y)
    have c1 : (y : Int) < 5 := by omega
    have c2 : (0 : Int) ≤ ((x + 5 * y : Nat) : Int) := by omega
    have c3 : ((x + 5 * y : Nat) : Int) < (a.length : Int) := by rw [hl]; omega
    have c4 : ((x + 5 * y : Nat) : Int) < (T.length : Int) := by rw [htl]; omega
    have c5 : y < 9223372036854775807 := by omega
    have c6 : (0 : Int) ≤ ((iQ x y : Nat) : Int) := by omega
    have c7 : ((iQ x y : Nat) : Int) < ((B (5 * x + y)).length : Int) := by rw [hbl]; omega
    have e1 := sE x y hx hy
    have e2 := tg x y hx hy
    obtain ⟨n, hn, h3⟩ := hT x y hx hy
    refine Ev.step (f := fun k => (bC.f k (Go.bits .xor .u64 (rd a ((x + 5 * y : Nat) : Int)) D) ((n : Nat) : Int)).bind fun t => ac.l2 k a T rc c ((B (5 * x + y)).set (iQ x y) t) (x : Int) D ((y + 1 : Nat) : Int)) (fun k => ?_) ?_
    ·simp only [ac.l2, e1, e2, h3]
     rw [Fa c1, Fa c2, Fa c3, Fa c4, dI y c5]
     congr 1
     funext t
     rw [Fa c6, Fa c7, Int.toNat_natCast]
    ·refine Ev.bind (qJ _ n (W64.xor _ _) hn) ?_
     have h4 := hB2 y hy
     rw [h3, Int.toNat_natCast] at h4
     unfold xr at h4
     rw [show 5 * x + (y + 1) = 5 * x + y + 1 from rfl, h4] at h2
     exact h2
   ·refine Ev.step (fun k => ?_) hh
    simp only [ac.l2]
    rw [Ga (by omega), dI x (by omega), show 5 * x + 5 = 5 * (x + 1) by omega]
 ·refine Ev.step (fun k => ?_) h
  simp only [ac.l1]
  rw [Ga (by omega), Fa (by decide)]
theorem uE (a : List Int) (hl : a.length = 25) : ∀ x ∈ bL a 25, W64 x := by
 refine oo fun i hi => ?_
 rw [jW] at hi
 obtain ⟨x, hx, y, hy, rfl⟩ := oJ i hi
 rw [ro a x y hx hy 25 (Ca _) (by omega)]
 exact ua _ _
theorem tV (a : List Int) (hl : a.length = 25) (ha : ∀ x ∈ a, W64 x) (rc : Int) : Ev (fun k => ac.l1 k a gn rc (thC a 25) (List.replicate 25 0) 0) (qd a rc) := by
 refine ru a (thC a 25) gn (bL a) hl rc _ (ka a 25) (uc a) rfl ?_ rfl (jW a) ?_ ?_
 ·intro x y hx hy
  obtain ⟨n, hn, h3, _⟩ := oQ a ha hl x y hx hy
  exact ⟨n, hn, h3⟩
 ·intro x y hx hy
  simp only [bL]
  rw [show (5 * x + y) / 5 = x by omega, show (5 * x + y) % 5 = y by omega]
 ·have h := rC (bL a 25) (jW a 25) (uE a hl) rc
  rw [show eA.v (bL a 25) = fP a by rw [si a hl]; rfl] at h
  exact h
theorem rn (a : List Int) (hl : a.length = 25) (ha : ∀ x ∈ a, W64 x) (rc : Int) : Ev (fun k => ac.f k a gn rc) (qd a rc) := by
 unfold ac.f
 refine Ev.pos (by decide) ?_
 refine Ev.up (g := fun i k => ac.l0 k a gn rc (cL a i) (i : Int)) 5 ?_ ?_ 0 (Nat.zero_le _)
 ·intro i hi hh
  refine Ev.step (fun k => ?_) hh
  have hc := me a i
  have e5 : wrap64 ((i : Int) + 5) = ((i + 5 : Nat) : Int) := by rw [w64 (by omega) (by omega)]; rfl
  have e10 : wrap64 ((i : Int) + 10) = ((i + 10 : Nat) : Int) := by rw [w64 (by omega) (by omega)]; rfl
  have e15 : wrap64 ((i : Int) + 15) = ((i + 15 : Nat) : Int) := by rw [w64 (by omega) (by omega)]; rfl
  have e20 : wrap64 ((i : Int) + 20) = ((i + 20 : Nat) : Int) := by rw [w64 (by omega) (by omega)]; rfl
  simp only [ac.l0, e5, e10, e15, e20]
  rw [Fa (by omega), Fa (by omega), Fa (by omega), Fa (by omega), Fa (by omega), Fa (by omega), Fa (by omega), Fa (by omega), Fa (by omega), Fa (by omega), Fa (by omega), Fa (by omega), dI i (by omega), Int.toNat_natCast]
  rfl
 ·refine Ev.step (f := fun k => ac.l1 k a gn rc (thC a 25) (List.replicate 25 0) 0) (fun k => ?_) (tV a hl ha rc)
  simp only [ac.l0]
  rw [Ga (by omega), Fa (by decide), tW a hl ha]
theorem rL : Ev (fun k => bM.f k) gn := Ev.of (fun k => bM.mono k) (k := 40) (by kernel_rfl)
def rcL : List Int := (List.range 24).map rcV
theorem rg : Ev (fun k => aX.f k) rcL := Ev.of (fun k => aX.mono k) (k := 300) (by kernel_rfl)
theorem tU (t : Nat) (h : t < 24) : rd rcL (t : Int) = rcV t := by
 rw [dA _ t (by unfold rcL; simpa using h)]
 simp only [rcL, List.getElem_map, List.getElem_range]
theorem sC : rcL.length = 24 := by unfold rcL; simp
theorem se (a : List Int) (rc : Int) : ∀ x ∈ qd a rc, W64 x := by
 intro x hx
 rcases List.mem_or_eq_of_mem_set hx with h | h
 ·exact uj _ x h
 ·rw [h]; exact W64.xor _ _
theorem qi (a : List Int) (ha : ∀ x ∈ a, W64 x) : ∀ t, ∀ x ∈ hD a t, W64 x
 | 0 => ha
 | t + 1 => se _ _
theorem qp (a : List Int) (hl : a.length = 25) (ha : ∀ x ∈ a, W64 x) : Ev (fun k => aY.f k a) (cP.v a) := by
 unfold aY.f
 refine Ev.bind rL (Ev.bind rg ?_)
 refine Ev.up (g := fun i k => aY.l0 k (hD a i) gn rcL (i : Int)) 24 ?_ ?_ 0 (Nat.zero_le _)
 ·intro t ht hh
  have c1 : (t : Int) < 24 := by omega
  have c2 : (0 : Int) ≤ (t : Int) := by omega
  have c3 : (t : Int) < (rcL.length : Int) := by rw [sC]; omega
  have c4 := dI t (by omega)
  refine Ev.step (f := fun k => (ac.f k (hD a t) gn (rcV t)).bind fun u => aY.l0 k u gn rcL ((t + 1 : Nat) : Int)) (fun k => ?_) ?_
  ·simp only [aY.l0]
   rw [Fa c1, Fa c2, Fa c3, c4, tU t ht]
  ·exact Ev.bind (rn _ (gM a t hl) (qi a ha t) _) hh
 ·refine Ev.step (f := fun _ => some (cP.v a)) (fun k => ?_) (Ev.now _)
  simp only [aY.l0]
  rw [Ga (by omega)]
  rfl
/-- The number of n bytes, the lowest first. -/
def pb (f : Nat → Int) : Nat → Int
 | 0 => 0
 | j + 1 => pb f j + f j * ((2 ^ (8 * j) : Nat) : Int)
theorem lq (f : Nat → Int) (hf : ∀ q, 0 ≤ f q ∧ f q ≤ 255) : ∀ n, 0 ≤ pb f n ∧ pb f n < ((2 ^ (8 * n) : Nat) : Int)
 | 0 => by simp [pb]
 | n + 1 => by
  have ih := lq f hf n
  have hn := hf n
  simp only [pb]
  have e : 2 ^ (8 * (n + 1)) = 256 * 2 ^ (8 * n) := by rw [Nat.mul_add, Nat.pow_add, Nat.mul_comm]
  rw [e]
  generalize 2 ^ (8 * n) = A at ih ⊢
  have h1 : f n * (A : Int) ≤ 255 * (A : Int) := Int.mul_le_mul_of_nonneg_right hn.2 (by omega)
  have h2 : 0 ≤ f n * (A : Int) := Int.mul_nonneg hn.1 (by omega)
  generalize f n * (A : Int) = z at h1 h2 ⊢
  omega
theorem g7 (s : ByteArray) (i : Int) : 0 ≤ bt s i ∧ bt s i ≤ 255 := by have := dU s i; omega
/-- The bytes of lane i. -/
def lb (s : ByteArray) (i : Nat) (q : Nat) : Int := bt s ((8 * i + q : Nat) : Int)
def gD (s : ByteArray) (i : Nat) : Int := pb (lb s i) 8
theorem sW (s : ByteArray) (i : Nat) : W64 (gD s i) := by
 have h := lq (lb s i) (fun q => g7 s _) 8
 exact ⟨h.1, h.2⟩
theorem sH (f : Nat → Int) (hf : ∀ q, 0 ≤ f q ∧ f q ≤ 255) (j : Nat) (hj : j < 8) : Go.bits .or .u64 (pb f j) (IntKind.u64.wrap (IntKind.u64.wrap (f j) * 2 ^ min (8 * j) 64)) = pb f (j + 1) := by
 have hb := hf j
 have h1 := lq f hf j
 have h9 := lq f hf (j + 1)
 have hA : 2 ^ (8 * j) ≤ 2 ^ 56 := Nat.pow_le_pow_right (by decide) (by omega)
 have hB : 2 ^ (8 * (j + 1)) ≤ 2 ^ 64 := Nat.pow_le_pow_right (by decide) (by omega)
 rw [Nat.min_eq_left (by omega), show (2 : Int) ^ (8 * j) = ((2 ^ (8 * j) : Nat) : Int) by rw [Int.natCast_pow]; rfl]
 simp only [pb] at h9 ⊢
 have hi : (2 : Int) ^ (8 * j) = ((2 ^ (8 * j) : Nat) : Int) := by rw [Int.natCast_pow]; rfl
 have e1 : IntKind.u64.wrap (f j) = f j := by rw [gC]; omega
 have h2 : 0 ≤ f j * ((2 ^ (8 * j) : Nat) : Int) := Int.mul_nonneg hb.1 (by omega)
 have h3 : f j * ((2 ^ (8 * j) : Nat) : Int) % ((2 ^ (8 * j) : Nat) : Int) = 0 := Int.mul_emod_left _ _
 rw [e1]
 have h4 : f j * ((2 ^ (8 * j) : Nat) : Int) < 18446744073709551616 := by
  generalize f j * ((2 ^ (8 * j) : Nat) : Int) = z at h2 h9 ⊢
  omega
 have e2 : IntKind.u64.wrap (f j * ((2 ^ (8 * j) : Nat) : Int)) = f j * ((2 ^ (8 * j) : Nat) : Int) := by
  rw [gC]
  generalize f j * ((2 ^ (8 * j) : Nat) : Int) = z at h2 h4 ⊢
  omega
 rw [e2]
 exact uq (8 * j) _ _ ⟨h1.1, by omega⟩ (by rw [hi]; exact h1.2) ⟨h2, h4⟩ (by rw [hi]; exact h3)
theorem kH (s : ByteArray) (i : Nat) (hi : i < 25) : ∀ m, m ≤ 200 → rd (gj s m) (i : Int) = pb (lb s i) (min 8 (m - 8 * i))
 | 0, _ => by
  rw [show min 8 (0 - 8 * i) = 0 by omega]
  exact gU 25 i
 | m + 1, h => by
  simp only [gj]
  rw [gi _ _ _ _ (by rw [fe]; omega), kH s i hi m (by omega)]
  by_cases e : i = m / 8
  ·rw [Fa e, ← e, kH s i hi m (by omega), show min 8 (m - 8 * i) = m % 8 by omega, show min 8 (m + 1 - 8 * i) = m % 8 + 1 by omega, ← sH (lb s i) (fun q => g7 s _) (m % 8) (by omega)]
   unfold lb
   rw [show 8 * i + m % 8 = m by omega]
  ·rw [Ga e, show min 8 (m + 1 - 8 * i) = min 8 (m - 8 * i) by omega]
theorem j4 (s : ByteArray) : dl.v s = (List.range 25).map (gD s) := by
 unfold dl.v
 apply jx (by rw [fe]; rfl)
 intro i hi
 rw [fe] at hi
 rw [kH s i hi 200 (Ca _), dA _ i (by simpa using hi), List.getElem_map, List.getElem_range, show min 8 (200 - 8 * i) = 8 by omega]
 rfl
/-- The same number, from its highest byte on. -/
def hv (f : Nat → Int) : Nat → Int
 | 0 => 0
 | n + 1 => hv f n * 256 + f (7 - n)
theorem tz (f : Nat → Int) (hf : ∀ q, 0 ≤ f q ∧ f q ≤ 255) : ∀ n, 0 ≤ hv f n ∧ hv f n < ((2 ^ (8 * n) : Nat) : Int)
 | 0 => by simp [hv]
 | n + 1 => by
  have ih := tz f hf n
  have hn := hf (7 - n)
  simp only [hv]
  have e : 2 ^ (8 * (n + 1)) = 256 * 2 ^ (8 * n) := by rw [Nat.mul_add, Nat.pow_add, Nat.mul_comm]
  rw [e]
  generalize 2 ^ (8 * n) = A at ih ⊢
  omega
theorem ut (f : Nat → Int) : hv f 8 = pb f 8 := by
 simp only [hv, pb]
 simp only [Nat.reduceSub, Nat.reduceMul, Nat.reducePow]
 omega
theorem oZ (s : ByteArray) (n : Nat) (hs : s.size = 8 * n) (hn : n ≤ 1000) : Ev (fun k => aN.f k s) ((List.range n).map (gD s)) := by
 unfold aN.f
 refine Ev.up (g := fun i k => aN.l0 k s ((List.range i).map (gD s)) ((8 * i : Nat) : Int)) n ?_ ?_ 0 (Nat.zero_le _)
 ·intro i hi hh
  refine Ev.step (f := fun k => aN.l1 k s ((List.range i).map (gD s)) ((8 * i : Nat) : Int) 0 7) (fun k => ?_) ?_
  ·simp only [aN.l0]
   rw [Fa (by rw [w64 (by omega) (by omega)]; omega)]
  ·refine Ev.up (g := fun j k => aN.l1 k s ((List.range i).map (gD s)) ((8 * i : Nat) : Int) (hv (lb s i) j) (7 - (j : Int))) 8 ?_ ?_ 0 (Nat.zero_le _)
   ·intro j hj h2
    refine Ev.step (fun k => ?_) h2
    have e1 : wrap64 (((8 * i : Nat) : Int) + (7 - (j : Int))) = ((8 * i + (7 - j) : Nat) : Int) := by rw [w64 (by omega) (by omega)]; omega
    have e2 : wrap64 (7 - (j : Int) - 1) = 7 - ((j + 1 : Nat) : Int) := by rw [w64 (by omega) (by omega)]; omega
    have hA : 2 ^ (8 * j) ≤ 2 ^ 56 := Nat.pow_le_pow_right (by decide) (by omega)
    have h3 := tz (lb s i) (fun q => g7 s _) j
    have h4 := g7 s ((8 * i + (7 - j) : Nat) : Int)
    have c1 : 7 - (j : Int) ≥ 0 := by omega
    have c2 : (0 : Int) ≤ ((8 * i + (7 - j) : Nat) : Int) := by omega
    have c3 : ((8 * i + (7 - j) : Nat) : Int) < (s.size : Int) := by omega
    simp only [aN.l1, e1, e2]
    rw [Fa c1, Fa c2, Fa c3]
    congr 1
    simp only [hv]
    show _ = _ + bt s ((8 * i + (7 - j) : Nat) : Int)
    generalize hv (lb s i) j = z at h3 ⊢
    generalize bt s ((8 * i + (7 - j) : Nat) : Int) = b at h4 ⊢
    rw [gC, gC, gC]
    omega
   ·refine Ev.step (fun k => ?_) hh
    simp only [aN.l1]
    rw [Ga (by omega), Fa (by simp; omega), ut, w64 (by omega) (by omega), List.range_succ, List.map_append]
    rfl
 ·refine Ev.step (f := fun _ => some ((List.range n).map (gD s))) (fun k => ?_) (Ev.now _)
  simp only [aN.l0]
  rw [Ga (by rw [w64 (by omega) (by omega)]; omega)]
/-- The byte m of lanes. -/
def fO (xs : List Int) (m : Nat) : Int := rd xs ((m / 8 : Nat) : Int) / 2 ^ (8 * (m % 8)) % 256
theorem kg (xs : List Int) (i : Nat) : ∀ m, m ≤ 200 → rd (gg xs m) (i : Int) = if i < m then fO xs i else 0
 | 0, _ => by rw [Ga (by omega)]; exact gU 200 i
 | m + 1, h => by
  simp only [gg]
  rw [gi _ _ _ _ (by rw [dD]; omega), kg xs i m (by omega)]
  by_cases e : i = m
  ·subst e
   rw [Fa rfl, Fa (by omega)]
   rfl
  ·rw [Ga e]
   by_cases e2 : i < m
   ·rw [Fa e2, Fa (by omega)]
   ·rw [Ga e2, Ga (by omega)]
theorem oX (xs : List Int) : gg xs 200 = (List.range 200).map (fO xs) := by
 apply jx (by rw [dD]; simp)
 intro i hi
 rw [dD] at hi
 rw [kg xs i 200 (Ca _), Fa hi, dA _ i (by simpa using hi), List.getElem_map, List.getElem_range]
theorem rE (xs : List Int) (hx : ∀ x ∈ xs, W64 x) (hl : xs.length ≤ 1000) : Ev (fun k => aQ.f k xs) (strOfNums ((List.range (8 * xs.length)).map (fO xs))) := by
 unfold aQ.f
 refine Ev.up (g := fun i k => aQ.l0 k xs ((List.range (8 * i)).map (fO xs)) (i : Int)) xs.length ?_ ?_ 0 (Nat.zero_le _)
 ·intro i hi hh
  have hw := mI hx i hi
  refine Ev.step (f := fun k => aQ.l1 k xs ((List.range (8 * i + 0)).map (fO xs)) (i : Int) (rd xs (i : Int) / 2 ^ (8 * 0)) ((0 : Nat) : Int)) (fun k => ?_) ?_
  ·simp only [aQ.l0]
   rw [Fa (by omega), Fa (by omega), Nat.mul_zero, Int.pow_zero, Int.ediv_one]
   rfl
  ·refine Ev.up (g := fun j k => aQ.l1 k xs ((List.range (8 * i + j)).map (fO xs)) (i : Int) (rd xs (i : Int) / 2 ^ (8 * j)) (j : Int)) 8 ?_ ?_ 0 (Nat.zero_le _)
   ·intro j hj h2
    refine Ev.step (fun k => ?_) h2
    have hA : (0 : Int) < 2 ^ (8 * j) := Int.pow_pos (by decide)
    have h3 : 0 ≤ rd xs (i : Int) / 2 ^ (8 * j) := Int.ediv_nonneg hw.1 (by omega)
    have h4 : rd xs (i : Int) / 2 ^ (8 * j) ≤ rd xs (i : Int) := Int.ediv_le_self _ hw.1
    have h5 := hw.2
    have e1 : rd xs (i : Int) / 2 ^ (8 * j) / 256 = rd xs (i : Int) / 2 ^ (8 * (j + 1)) := by
     rw [Int.ediv_ediv_of_nonneg (by omega), Nat.mul_add, Int.pow_add]; rfl
    have e3 : fO xs (8 * i + j) = rd xs (i : Int) / 2 ^ (8 * j) % 256 := by
     unfold fO
     rw [show (8 * i + j) / 8 = i by omega, show (8 * i + j) % 8 = j by omega]
    have e2 : (List.range (8 * i + (j + 1))).map (fO xs) = (List.range (8 * i + j)).map (fO xs) ++ [rd xs (i : Int) / 2 ^ (8 * j) % 256] := by
     rw [show 8 * i + (j + 1) = 8 * i + j + 1 from rfl, List.range_succ, List.map_append, List.map_singleton, e3]
    simp only [aQ.l1]
    rw [Fa (by omega), Fa (by simp; omega), dI j (by omega), e2, ← e1]
    generalize rd xs (i : Int) / 2 ^ (8 * j) = z at h3 h4 ⊢
    rw [Int.tdiv_eq_ediv_of_nonneg h3, Int.tmod_eq_emod_of_nonneg h3, gC]
    congr 1
    ·congr 2; omega
    ·omega
   ·refine Ev.step (fun k => ?_) hh
    simp only [aQ.l1]
    rw [Ga (by omega), dI i (by omega), show 8 * i + 8 = 8 * (i + 1) by omega]
 ·refine Ev.step (f := fun _ => some (strOfNums ((List.range (8 * xs.length)).map (fO xs)))) (fun k => ?_) (Ev.now _)
  simp only [aQ.l0]
  rw [Ga (by omega)]
theorem qo (xs : List Int) (hx : ∀ x ∈ xs, W64 x) (hl : xs.length = 25) : Ev (fun k => aQ.f k xs) (fU.v xs) := by
 have h := rE xs hx (by omega)
 rw [hl, ← oX] at h
 exact h
theorem nK (s : ByteArray) : ∀ x ∈ dl.v s, W64 x := by
 rw [j4]
 intro x hx
 obtain ⟨i, _, rfl⟩ := List.mem_map.mp hx
 exact sW s i
theorem kW (s : ByteArray) : (dl.v s).length = 25 := fe s 200
theorem mD (a : List Int) (ha : ∀ x ∈ a, W64 x) : ∀ x ∈ cP.v a, W64 x := qi a ha 24
theorem qe (s : ByteArray) (hs : s.size = 200) : Ev (fun k => dc.f k s) (fx s) := by
 unfold dc.f
 refine Ev.pos (by omega) ?_
 have h := oZ s 25 (by omega) (by decide)
 rw [← j4] at h
 exact Ev.bind h (Ev.bind (qp _ (kW s) (nK s)) (Ev.bind (qo _ (mD _ (nK s)) (gM _ 24 (kW s))) (Ev.now _)))
def B8 (x : Int) : Prop := 0 ≤ x ∧ x ≤ 255
theorem B8.xor (a b : Int) : B8 (Go.bits .xor .u8 a b) := by
 show B8 (IntKind.u8.wrap (((BitVec.ofInt 8 a ^^^ BitVec.ofInt 8 b).toNat : Nat) : Int))
 rw [IntKind.wrap_u8]; unfold B8; omega
theorem uF (a b : Nat) (ha : a < 256) (hb : b < 256) : Go.bits .xor .u8 (a : Int) (b : Int) = ((a ^^^ b : Nat) : Int) := by
 show IntKind.u8.wrap (((BitVec.ofInt 8 (a : Int) ^^^ BitVec.ofInt 8 (b : Int)).toNat : Nat) : Int) = _
 have e1 : (BitVec.ofInt 8 (a : Int) ^^^ BitVec.ofInt 8 (b : Int)).toNat = a ^^^ b := by
  rw [BitVec.toNat_xor, BitVec.toNat_ofInt, BitVec.toNat_ofInt]
  congr 1 <;> omega
 rw [e1]
 have : a ^^^ b < 2 ^ 8 := Nat.xor_lt_two_pow ha hb
 rw [IntKind.wrap_u8]
 omega
/-- Numbers of two parts, turned part by part. -/
theorem rm (k a b c d : Nat) (ha : a < 2 ^ k) (hc : c < 2 ^ k) : (a + b * 2 ^ k) ^^^ (c + d * 2 ^ k) = (a ^^^ c) + (b ^^^ d) * 2 ^ k := by
 have hp : 0 < 2 ^ k := Nat.pow_pos (by decide)
 have e1 : (a + b * 2 ^ k) % 2 ^ k = a := by rw [Nat.add_mul_mod_self_right, Nat.mod_eq_of_lt ha]
 have e2 : (c + d * 2 ^ k) % 2 ^ k = c := by rw [Nat.add_mul_mod_self_right, Nat.mod_eq_of_lt hc]
 have e3 : (a + b * 2 ^ k) / 2 ^ k = b := by rw [Nat.add_mul_div_right _ _ hp, Nat.div_eq_of_lt ha, Nat.zero_add]
 have e4 : (c + d * 2 ^ k) / 2 ^ k = d := by rw [Nat.add_mul_div_right _ _ hp, Nat.div_eq_of_lt hc, Nat.zero_add]
 have h := Nat.mod_add_div ((a + b * 2 ^ k) ^^^ (c + d * 2 ^ k)) (2 ^ k)
 rw [Nat.xor_mod_two_pow, Nat.xor_div_two_pow, e1, e2, e3, e4, Nat.mul_comm (2 ^ k)] at h
 exact h.symm
theorem rI (f g : Nat → Int) (hf : ∀ q, 0 ≤ f q ∧ f q ≤ 255) (hg : ∀ q, 0 ≤ g q ∧ g q ≤ 255) : ∀ n, n ≤ 8 → pb (fun q => Go.bits .xor .u8 (f q) (g q)) n = Go.bits .xor .u64 (pb f n) (pb g n)
 | 0, _ => by
  simp only [pb]
  exact (pa 0 ⟨by decide, by decide⟩).symm
 | n + 1, h => by
  have ih := rI f g hf hg n (by omega)
  have a1 := lq f hf n
  have a2 := lq g hg n
  have b1 := lq f hf (n + 1)
  have b2 := lq g hg (n + 1)
  have c1 := hf n
  have c2 := hg n
  have hB : 2 ^ (8 * (n + 1)) ≤ 2 ^ 64 := Nat.pow_le_pow_right (by decide) (by omega)
  have hC : 2 ^ (8 * n) ≤ 2 ^ 64 := Nat.pow_le_pow_right (by decide) (by omega)
  simp only [pb] at b1 b2 ⊢
  rw [ih]
  clear ih
  obtain ⟨a, ea⟩ := Int.eq_ofNat_of_zero_le a1.1
  obtain ⟨c, ec⟩ := Int.eq_ofNat_of_zero_le a2.1
  obtain ⟨b, eb⟩ := Int.eq_ofNat_of_zero_le c1.1
  obtain ⟨d, ed⟩ := Int.eq_ofNat_of_zero_le c2.1
  rw [ea, eb] at b1 ⊢
  rw [ec, ed] at b2 ⊢
  rw [ea] at a1
  rw [ec] at a2
  rw [eb] at c1
  rw [ed] at c2
  rw [rF a c (by omega) (by omega), uF b d (by omega) (by omega), ← Int.natCast_mul, ← Int.natCast_mul, ← Int.natCast_mul, ← Int.natCast_add, ← Int.natCast_add, ← Int.natCast_add, rF _ _ ?_ ?_]
  ·rw [rm (8 * n) a b c d (by omega) (by omega)]
  ·have := b1.2
   rw [← Int.natCast_mul, ← Int.natCast_add] at this
   omega
  ·have := b2.2
   rw [← Int.natCast_mul, ← Int.natCast_add] at this
   omega
theorem kc {f g : Nat → Int} : ∀ n, (∀ q, q < n → f q = g q) → pb f n = pb g n
 | 0, _ => rfl
 | n + 1, h => by
  simp only [pb]
  rw [kc n (fun q hq => h q (by omega)), h n (by omega)]
theorem nE (x : Nat) : ∀ n, pb (fun q => (x : Int) / 2 ^ (8 * q) % 256) n = ((x % 2 ^ (8 * n) : Nat) : Int)
 | 0 => by simp [pb, Nat.mod_one]
 | n + 1 => by
  simp only [pb]
  rw [nE x n, show (2 : Int) ^ (8 * n) = ((2 ^ (8 * n) : Nat) : Int) by rw [Int.natCast_pow]; rfl, ← Int.natCast_ediv, Nat.mul_add, Nat.pow_add, show 2 ^ (8 * 1) = 256 from rfl, Nat.mod_mul]
  rw [Nat.mul_comm (2 ^ (8 * n)) (x / 2 ^ (8 * n) % 256), Int.natCast_add, Int.natCast_mul]
  rfl
/-- A lane, of its own bytes. -/
theorem pv (W : List Int) (i : Nat) (h : W64 (rd W (i : Int))) : pb (fun q => fO W (8 * i + q)) 8 = rd W (i : Int) := by
 obtain ⟨x, hx⟩ := Int.eq_ofNat_of_zero_le h.1
 have h2 := h.2
 rw [hx] at h2
 rw [kc (g := fun q => (x : Int) / 2 ^ (8 * q) % 256) 8 ?_, nE, hx, Nat.mod_eq_of_lt (by omega)]
 intro q hq
 unfold fO
 rw [show (8 * i + q) / 8 = i by omega, show (8 * i + q) % 8 = q by omega, hx]
theorem oI (W : List Int) (m : Nat) : B8 (fO W m) := by unfold fO B8; omega
theorem r9 (L : List Int) (hL : ∀ x ∈ L, B8 x) (j : Nat) (hj : j < L.length) : bt (strOfNums L) (j : Int) = rd L (j : Int) := by
 have h := mI hL j hj
 rw [dA L j hj] at h ⊢
 have hs : j < (strOfNums L).size := by rw [strOfNums_size]; exact hj
 rw [← cY (strOfNums L) (j : Int) (by simpa using hs)]
 simp only [Int.toNat_natCast]
 rw [jO L j hs, UInt8.toNat_ofNat']
 unfold B8 at h
 omega
theorem rq (L : List Int) (hL : ∀ x ∈ L, B8 x) : bl (strOfNums L) = L := by
 apply jx (by rw [dH, strOfNums_size])
 intro i hi
 rw [dH, strOfNums_size] at hi
 rw [← r9 L hL i hi, dA _ i (by rw [dH, strOfNums_size]; exact hi)]
 have hs : i < (strOfNums L).size := by rw [strOfNums_size]; exact hi
 rw [← cY (strOfNums L) (i : Int) (by simpa using hs)]
 simp [bl]
 rfl
theorem pc (W : List Int) : ∀ x ∈ gg W 200, B8 x := by
 rw [oX]
 intro x hx
 obtain ⟨m, _, rfl⟩ := List.mem_map.mp hx
 exact oI W m
theorem lW (st T : List Int) (o i : Nat) : ∀ n, n ≤ st.length → rd (iI st T o n) (i : Int) = if i < n then Go.bits .xor .u8 (rd st (i : Int)) (rd T ((o + i : Nat) : Int)) else rd st (i : Int)
 | 0, _ => by rw [Ga (by omega)]; rfl
 | n + 1, h => by
  simp only [iI]
  rw [gi _ _ _ _ (by rw [kn]; omega), lW st T o i n (by omega)]
  by_cases e : i = n
  ·subst e
   rw [Fa rfl, Fa (by omega), lW st T o i i (by omega), Ga (by omega)]
  ·rw [Ga e]
   by_cases e2 : i < n
   ·rw [Fa e2, Fa (by omega)]
   ·rw [Ga e2, Ga (by omega)]
theorem oh (st ls : List Int) (i : Nat) : ∀ n, n ≤ st.length → rd (iw st ls n) (i : Int) = if i < n then Go.bits .xor .u64 (rd st (i : Int)) (rd ls (i : Int)) else rd st (i : Int)
 | 0, _ => by rw [Ga (by omega)]; rfl
 | n + 1, h => by
  simp only [iw]
  rw [gi _ _ _ _ (by rw [jt]; omega), oh st ls i n (by omega)]
  by_cases e : i = n
  ·subst e
   rw [Fa rfl, Fa (by omega), oh st ls i i (by omega), Ga (by omega)]
  ·rw [Ga e]
   by_cases e2 : i < n
   ·rw [Fa e2, Fa (by omega)]
   ·rw [Ga e2, Ga (by omega)]
theorem ox (T : List Int) (o n i : Nat) (hi : i < n) (h : o + n ≤ T.length) : rd ((T.drop o).take n) (i : Int) = rd T ((o + i : Nat) : Int) := by
 rw [dA _ i (by simp; omega), dA _ (o + i) (by omega)]
 simp
theorem rS (T : List Int) (hT : ∀ x ∈ T, B8 x) (n : Nat) : ∀ x ∈ (T.drop (168 * n)).take 168, B8 x := fun x hx => hT x (List.mem_of_mem_drop (List.mem_of_mem_take hx))
/-- A state turned by a block: byte by byte or lane by lane. -/
theorem pt (W T : List Int) (m : Nat) (hl : W.length = 25) (hw : ∀ x ∈ W, W64 x) (hT : ∀ x ∈ T, B8 x) (hm : 168 * m + 168 ≤ T.length) :
  dl.v (strOfNums (iI (gg W 200) T (168 * m) 168)) = iw W ((List.range 21).map (gD (fv T m))) 21 := by
 have hY : ∀ x ∈ iI (gg W 200) T (168 * m) 168, B8 x := by
  refine oo fun i hi => ?_
  rw [kn, dD] at hi
  rw [lW _ _ _ _ 168 (by rw [dD]; decide)]
  split
  ·exact B8.xor _ _
  ·exact mI (pc W) i (by rw [dD]; exact hi)
 have hYl : (iI (gg W 200) T (168 * m) 168).length = 200 := by rw [kn, dD]
 have hbyte : ∀ j : Nat, j < 200 → bt (strOfNums (iI (gg W 200) T (168 * m) 168)) (j : Int) = if j < 168 then Go.bits .xor .u8 (fO W j) (rd T ((168 * m + j : Nat) : Int)) else fO W j := by
  intro j hj
  rw [r9 _ hY j (by rw [hYl]; exact hj), lW _ _ _ _ 168 (by rw [dD]; decide), kg W j 200 (Ca _), Fa hj]
 have hblk : ∀ j : Nat, j < 168 → bt (fv T m) (j : Int) = rd T ((168 * m + j : Nat) : Int) := by
  intro j hj
  unfold fv
  rw [r9 _ (rS T hT m) j (by simp; omega), ox T _ 168 j hj (by omega)]
 rw [j4]
 apply jx (by rw [jt, hl]; rfl)
 intro i hi
 have hi : i < 25 := by simpa using hi
 rw [oh _ _ _ 21 (by rw [hl]; decide), dA ((List.range 25).map _) i (by simpa using hi), List.getElem_map, List.getElem_range]
 have hwi := mI hw i (by rw [hl]; exact hi)
 by_cases h : i < 21
 ·rw [Fa h, dA ((List.range 21).map (gD (fv T m))) i (by simpa using h), List.getElem_map, List.getElem_range]
  unfold gD
  rw [kc (g := fun q => Go.bits .xor .u8 (fO W (8 * i + q)) (lb (fv T m) i q)) 8 ?_, rI (fun q => fO W (8 * i + q)) (lb (fv T m) i) (fun q => oI W _) (fun q => g7 _ _) 8 (Ca _), pv W i hwi]
  intro q hq
  unfold lb
  rw [hbyte _ (by omega), Fa (by omega), hblk _ (by omega)]
 ·unfold gD
  rw [Ga h, kc (g := fun q => fO W (8 * i + q)) 8 ?_, pv W i hwi]
  intro q hq
  unfold lb
  rw [hbyte _ (by omega), Ga (by omega)]
/-- The lanes behind m blocks. -/
def stW (T : List Int) : Nat → List Int
 | 0 => List.replicate 25 0
 | m + 1 => cP.v (iw (stW T m) ((List.range 21).map (gD (fv T m))) 21)
theorem pL (st ls : List Int) (h : ∀ x ∈ st, W64 x) : ∀ n, ∀ x ∈ iw st ls n, W64 x
 | 0 => h
 | n + 1 => by
  intro x hx
  simp only [iw] at hx
  rcases List.mem_or_eq_of_mem_set hx with h2 | h2
  ·exact pL st ls h n x h2
  ·rw [h2]; exact W64.xor _ _
theorem jS (T : List Int) : ∀ m, (stW T m).length = 25 ∧ ∀ x ∈ stW T m, W64 x
 | 0 => ⟨by simp [stW], by
  intro x hx
  simp only [stW] at hx
  rw [List.eq_of_mem_replicate hx]
  exact ⟨by decide, by decide⟩⟩
 | m + 1 => by
  have ih := jS T m
  have h1 : (iw (stW T m) ((List.range 21).map (gD (fv T m))) 21).length = 25 := by rw [jt]; exact ih.1
  have h2 := pL (stW T m) ((List.range 21).map (gD (fv T m))) ih.2 21
  simp only [stW]
  generalize iw (stW T m) ((List.range 21).map (gD (fv T m))) 21 = a at h1 h2 ⊢
  exact ⟨gM a 24 h1, mD a h2⟩
theorem qx (T : List Int) (hT : ∀ x ∈ T, B8 x) : ∀ m, 168 * m ≤ T.length → g5 T m = gg (stW T m) 200
 | 0, _ => by
  simp only [g5, stW]
  apply jx (by rw [dD, List.length_replicate])
  intro i hi
  rw [List.length_replicate] at hi
  rw [gU, kg _ i 200 (Ca _), Fa hi]
  unfold fO
  rw [gU]
  simp
 | m + 1, h => by
  simp only [g5, fx]
  rw [qx T hT m (by omega), pt _ T m (jS T m).1 (jS T m).2 hT (by omega)]
  unfold fU.v
  rw [rq _ (pc _)]
  rfl
theorem qn (T : List Int) (hT : ∀ x ∈ T, B8 x) : ∀ m, 168 * m ≤ T.length → Ev (fun k => lN k T m) (stW T m)
 | 0, _ => Ev.now _
 | m + 1, h => by
  have hs : (fv T m).size = 8 * 21 := by
   unfold fv
   rw [strOfNums_size]
   simp
   omega
  have h1 := jS T m
  have h2 := jS T (m + 1)
  have hl : ((List.range 21).map (gD (fv T m))).length = 21 := by simp
  refine Ev.bind (qn T hT m (by omega)) (Ev.bind (oZ (fv T m) 21 hs (by decide)) (Ev.pos ?_ ?_))
  ·rw [hl, h1.1]; decide
  ·rw [hl]
   have h3 := qp (iw (stW T m) ((List.range 21).map (gD (fv T m))) 21) (by rw [jt]; exact h1.1) (pL _ _ h1.2 21)
   simp only [stW] at h2 ⊢
   refine Ev.bind h3 (Ev.pos ?_ (Ev.now _))
   rw [h2.1]; decide
theorem sN (s : ByteArray) (c : Int) (hc : B8 c) : ∀ x ∈ ig s c, B8 x := by
 intro x hx
 unfold ig qD at hx
 rcases List.mem_or_eq_of_mem_set hx with h | h
 ·unfold fM at h
  rw [List.mem_append, List.mem_append] at h
  rcases h with (h | h) | h
  ·unfold bl at h
   obtain ⟨b, _, rfl⟩ := List.mem_map.mp h
   have := b.toNat_lt
   exact ⟨by omega, by omega⟩
  ·rw [List.mem_singleton] at h; rw [h]; exact hc
  ·rw [List.eq_of_mem_replicate h]; exact ⟨by decide, by decide⟩
 ·rw [h]; exact B8.xor _ _
/-- The state that a text leaves. -/
def mH (s : ByteArray) : ByteArray := strOfNums (g5 (ig s 31) ((ig s 31).length / 168))
theorem ix (s : ByteArray) : (mH s).size = 200 := by unfold mH; rw [strOfNums_size, iy]
theorem my (s : ByteArray) (hs : s.size ≤ 1000000000000) : Ev (fun k => cT.f k s 168 31) (mH s) := by
 have hT := sN s 31 ⟨by decide, by decide⟩
 have hm : 168 * ((ig s 31).length / 168) ≤ (ig s 31).length := Nat.mul_div_le _ _
 unfold cT.f
 refine Ev.pos ⟨rfl, hs⟩ (Ev.bind (qn _ hT _ hm) ?_)
 unfold mH
 rw [qx _ hT _ hm]
 exact qo _ (jS _ _).2 (jS _ _).1
theorem mj (s : ByteArray) (hs : s.size ≤ 1000000000000) : Ev (fun k => dk.f k s 168 31) (mH s) := by
 unfold dk.f
 exact Ev.pos ⟨rfl, hs⟩ (Ev.now _)
theorem jB (s : ByteArray) : (⟨#[]⟩ : ByteArray) ++ s = s := by
 apply eW
 simp [ByteArray.data_append]
theorem iE (s : ByteArray) (a n : Nat) (h : a + n ≤ s.size) : (s.extract a (a + n)).size = n := by
 rw [ByteArray.size_extract]; omega
theorem kt (s : ByteArray) (a n : Nat) (hs : s.size = 200) (hn : 0 < n) (h : a + n ≤ 168) : Ev (fun k => aD.f k s (a : Int) (n : Int)) (s, ((a + n : Nat) : Int), s.extract a (a + n)) := by
 unfold aD.f
 refine Ev.pos ⟨by omega, by omega, hs, by omega, by omega⟩ ?_
 rw [Int.toNat_natCast, Int.toNat_natCast]
 have hx := iE s a n (by omega)
 refine Ev.step (f := fun k => aD.l0 k n (s.extract a (a + n)) s (a + n)) (fun k => ?_) ?_
 ·simp only [aD.l0]
  have e0 : (⟨#[]⟩ : ByteArray).size = 0 := rfl
  rw [Fa (by rw [e0]; exact hn), Ga (by omega), Fa ⟨by omega, hs⟩, e0, Nat.sub_zero, Nat.min_eq_right (by omega), jB]
 ·refine Ev.step (f := fun _ => some (s, ((a + n : Nat) : Int), s.extract a (a + n))) (fun k => ?_) (Ev.now _)
  simp only [aD.l0]
  rw [Ga (by omega)]
theorem m5 (s : ByteArray) (n : Nat) (hs : s.size = 200) (hn : 0 < n) (h : n ≤ 168) : Ev (fun k => aD.f k s 168 (n : Int)) (fx s, (n : Int), (fx s).extract 0 n) := by
 unfold aD.f
 refine Ev.pos ⟨by omega, by omega, hs, by omega, by omega⟩ ?_
 rw [Int.toNat_natCast]
 have hp := gZ s
 have hx := iE (fx s) 0 n (by omega)
 rw [Nat.zero_add] at hx
 refine Ev.step (f := fun k => (dc.f k s).bind fun t => if t.size = 200 then aD.l0 k n (t.extract 0 n) t n else none) (fun k => ?_) (Ev.bind (qe s hs) (Ev.pos hp ?_))
 ·simp only [aD.l0]
  have e0 : (⟨#[]⟩ : ByteArray).size = 0 := rfl
  rw [Fa (by rw [e0]; exact hn), Fa (by decide), e0, Nat.sub_zero, Nat.min_eq_right (by omega)]
  simp only [jB]
 ·refine Ev.step (f := fun _ => some (fx s, (n : Int), (fx s).extract 0 n)) (fun k => ?_) (Ev.now _)
  simp only [aD.l0]
  rw [Ga (by omega)]
theorem jv (s : ByteArray) (a n : Nat) (r : ByteArray × Int × ByteArray) (hs : s.size = 200) (hn : n ≤ 168) (ha : a ≤ 168) (h : Ev (fun k => aq.l0 k (n : Int) (⟨#[]⟩ : ByteArray) s (a : Int)) r) : Ev (fun k => aq.f k s (a : Int) (n : Int)) r := by
 unfold aq.f
 have e1 : b8.f (n : Int) 0 4000 = some true := (lZ _ _ _).trans (by rw [ya]; omega)
 have e2 : b8.f (a : Int) 0 168 = some true := (lZ _ _ _).trans (by rw [ya]; omega)
 refine Ev.then e1 (Ev.pos rfl (Ev.pos (by omega) (Ev.then e2 ?_)))
 refine Ev.step (fun k => ?_) h
 simp only [aq.j0]
 rw [Ga (by decide)]
theorem iU (s : ByteArray) (a n : Nat) (hs : s.size = 200) (hn : 0 < n) (h : a + n ≤ 168) : Ev (fun k => aq.f k s (a : Int) (n : Int)) (s, ((a + n : Nat) : Int), s.extract a (a + n)) := by
 refine jv s a n _ hs (by omega) (by omega) ?_
 have hx := iE s a n (by omega)
 have e0 : (⟨#[]⟩ : ByteArray).size = 0 := rfl
 have e1 : wrap64 ((n : Int) - ((⟨#[]⟩ : ByteArray).size : Int)) = (n : Int) := by rw [e0, w64 (by omega) (by omega)]; omega
 have e2 : wrap64 (168 - (a : Int)) = ((168 - a : Nat) : Int) := by rw [w64 (by omega) (by omega)]; omega
 have e3 : mn (n : Int) ((168 - a : Nat) : Int) = (n : Int) := by unfold mn; rw [Ga (by omega)]
 have e4 : wrap64 ((a : Int) + (n : Int)) = ((a + n : Nat) : Int) := by rw [w64 (by omega) (by omega)]; omega
 refine Ev.step (f := fun k => aq.l0 k (n : Int) (s.extract a (a + n)) s ((a + n : Nat) : Int)) (fun k => ?_) ?_
 ·simp only [aq.l0, e1, e2, e3, e4]
  rw [Fa (by rw [e0]; omega), Ga (by omega), Fa (by omega), Fa (by omega), Fa (by omega), Int.toNat_natCast, Int.toNat_natCast, Fa (by rw [e0, hx]; omega), jB]
 ·refine Ev.step (f := fun _ => some (s, ((a + n : Nat) : Int), s.extract a (a + n))) (fun k => ?_) (Ev.now _)
  simp only [aq.l0]
  rw [Ga (by omega)]
theorem mW (s : ByteArray) (n : Nat) (hs : s.size = 200) (hn : 0 < n) (h : n ≤ 168) : Ev (fun k => aq.f k s 168 (n : Int)) (fx s, (n : Int), (fx s).extract 0 n) := by
 refine jv s 168 n _ hs (by omega) (by omega) ?_
 have hp := gZ s
 have hx := iE (fx s) 0 n (by omega)
 rw [Nat.zero_add] at hx
 have e0 : (⟨#[]⟩ : ByteArray).size = 0 := rfl
 have e1 : wrap64 ((n : Int) - ((⟨#[]⟩ : ByteArray).size : Int)) = (n : Int) := by rw [e0, w64 (by omega) (by omega)]; omega
 have e3 : mn (n : Int) 168 = (n : Int) := by unfold mn; rw [Ga (by omega)]
 have e4 : wrap64 (0 + (n : Int)) = (n : Int) := by rw [w64 (by omega) (by omega)]; omega
 refine Ev.step (f := fun k => aq.l0 k (n : Int) ((fx s).extract 0 n) (fx s) (n : Int)) (fun k => ?_) ?_
 ·simp only [aq.l0, e1, e3, e4, qz s hs, Option.bind_some]
  rw [Fa (by rw [e0]; omega), Fa (by rfl), Fa (by omega), Fa (by omega), Int.toNat_natCast, Fa (by rw [e0, hx]; omega), jB]
 ·refine Ev.step (f := fun _ => some (fx s, (n : Int), (fx s).extract 0 n)) (fun k => ?_) (Ev.now _)
  simp only [aq.l0]
  rw [Ga (by omega)]
theorem lg (s : ByteArray) (hs : s.size ≤ 1000000000000) : Ev (fun k => ce.f k s) (mH s, 0) := by
 unfold ce.f
 exact Ev.bind (my s hs) (Ev.now _)
theorem kZ (s : ByteArray) (hs : s.size ≤ 1000000000000) : Ev (fun k => cf.f k s) (mH s, 0) := by
 unfold cf.f
 exact Ev.bind (mj s hs) (Ev.now _)
/-- The first n bytes that a text gives. -/
def mB (s : ByteArray) (n : Nat) : ByteArray := (mH s).extract 0 n
theorem m6 (s : ByteArray) (hs : s.size ≤ 1000000000000) : Ev (fun k => db.f k s 128) (mB s 128, true) := by
 unfold db.f
 have h := kt (mH s) 0 128 (ix s) (by decide) (by decide)
 have e1 : aZ.f 128 0 4000 = some true := by rfl
 exact Ev.then e1 (Ev.pos rfl (Ev.bind (lg s hs) (Ev.bind h (Ev.now _))))
theorem m0 (s : ByteArray) (hs : s.size ≤ 1000000000000) : Ev (fun k => dd.f k s 128) (mB s 128, true) := by
 unfold dd.f
 have h := iU (mH s) 0 128 (ix s) (by decide) (by decide)
 have e1 : b8.f 128 0 4000 = some true := by rfl
 exact Ev.then e1 (Ev.pos rfl (Ev.bind (kZ s hs) (Ev.bind h (Ev.now _))))
def kw (n : Int) : ByteArray := strOfNums [n % 256]
theorem gN (n : Int) : (kw n).size = 1 := by simp [kw, strOfNums_size]
theorem kU (n : Int) : cX.f n = some (kw n) := rfl
theorem kL (n : Int) : cS.f n = some (kw n) := by
 have h := Int.mul_tdiv_add_tmod n 256
 have h1 := Int.tmod_lt_of_pos n (show (0 : Int) < 256 by decide)
 have h2 := Int.lt_tmod_of_pos n (show (0 : Int) < 256 by decide)
 have h3 : (Int.tmod n 256) % 256 = n % 256 := by omega
 unfold cS.f kw
 split
 ·rw [w64 (by omega) (by omega), show (Int.tmod n 256 + 256) % 256 = n % 256 by omega]
 ·rw [h3]
/-- A coefficient of four bits. -/
def cb (v : Int) : Int := (v % 2 + v / 2 % 2 - v / 4 % 2 - v / 8 % 2 + 3329) % 3329
theorem uu (b : Int) (h0 : 0 ≤ b) (h1 : b ≤ 255) : Int.tmod (wrap64 ((wrap64 ((wrap64 ((wrap64 ((Int.tmod (wrap64 (Int.tdiv (wrap64 b) 16)) 2) + (Int.tmod (wrap64 (Int.tdiv (wrap64 (Int.tdiv (wrap64 b) 16)) 2)) 2))) - (Int.tmod (wrap64 (Int.tdiv (wrap64 (Int.tdiv (wrap64 b) 16)) 4)) 2))) - (Int.tmod (wrap64 (Int.tdiv (wrap64 (Int.tdiv (wrap64 b) 16)) 8)) 2))) + 3329)) 3329 = cb (b / 16) := by
 have h : ((List.range 256).all fun n : Nat => decide (Int.tmod (wrap64 ((wrap64 ((wrap64 ((wrap64 ((Int.tmod (wrap64 (Int.tdiv (wrap64 (n : Int)) 16)) 2) + (Int.tmod (wrap64 (Int.tdiv (wrap64 (Int.tdiv (wrap64 (n : Int)) 16)) 2)) 2))) - (Int.tmod (wrap64 (Int.tdiv (wrap64 (Int.tdiv (wrap64 (n : Int)) 16)) 4)) 2))) - (Int.tmod (wrap64 (Int.tdiv (wrap64 (Int.tdiv (wrap64 (n : Int)) 16)) 8)) 2))) + 3329)) 3329 = cb ((n : Int) / 16))) = true := by kernel_rfl
 obtain ⟨n, rfl⟩ := Int.eq_ofNat_of_zero_le h0
 exact of_decide_eq_true (List.all_eq_true.mp h n (List.mem_range.mpr (by omega)))
theorem uf (b : Int) (h0 : 0 ≤ b) (h1 : b ≤ 255) : Int.tmod (wrap64 ((wrap64 ((wrap64 ((wrap64 ((Int.tmod (wrap64 b) 2) + (Int.tmod (wrap64 (Int.tdiv (wrap64 b) 2)) 2))) - (Int.tmod (wrap64 (Int.tdiv (wrap64 b) 4)) 2))) - (Int.tmod (wrap64 (Int.tdiv (wrap64 b) 8)) 2))) + 3329)) 3329 = cb b := by
 have h : ((List.range 256).all fun n : Nat => decide (Int.tmod (wrap64 ((wrap64 ((wrap64 ((wrap64 ((Int.tmod (wrap64 (n : Int)) 2) + (Int.tmod (wrap64 (Int.tdiv (wrap64 (n : Int)) 2)) 2))) - (Int.tmod (wrap64 (Int.tdiv (wrap64 (n : Int)) 4)) 2))) - (Int.tmod (wrap64 (Int.tdiv (wrap64 (n : Int)) 8)) 2))) + 3329)) 3329 = cb (n : Int))) = true := by kernel_rfl
 obtain ⟨n, rfl⟩ := Int.eq_ofNat_of_zero_le h0
 exact of_decide_eq_true (List.all_eq_true.mp h n (List.mem_range.mpr (by omega)))
theorem th (b : Int) (m : Nat) (h0 : 0 ≤ b) (h1 : b ≤ 255) (hm : m < 2) : cd.f (wrap64 ((wrap64 ((wrap64 ((Go.bits .and .i64 (wrap64 (shr .u8 b (wrap64 (4 * (m : Int))))) 1) + (Go.bits .and .i64 ((wrap64 (shr .u8 b (wrap64 (4 * (m : Int))))) / 2) 1))) - (Go.bits .and .i64 ((wrap64 (shr .u8 b (wrap64 (4 * (m : Int))))) / 4) 1))) - (Go.bits .and .i64 ((wrap64 (shr .u8 b (wrap64 (4 * (m : Int))))) / 8) 1))) = some (cb (if m = 1 then b / 16 else b)) := by
 have h : ((List.range 256).all fun n : Nat => (List.range 2).all fun m : Nat => decide (cd.f (wrap64 ((wrap64 ((wrap64 ((Go.bits .and .i64 (wrap64 (shr .u8 (n : Int) (wrap64 (4 * (m : Int))))) 1) + (Go.bits .and .i64 ((wrap64 (shr .u8 (n : Int) (wrap64 (4 * (m : Int))))) / 2) 1))) - (Go.bits .and .i64 ((wrap64 (shr .u8 (n : Int) (wrap64 (4 * (m : Int))))) / 4) 1))) - (Go.bits .and .i64 ((wrap64 (shr .u8 (n : Int) (wrap64 (4 * (m : Int))))) / 8) 1))) = some (cb (if m = 1 then (n : Int) / 16 else (n : Int))))) = true := by kernel_rfl
 obtain ⟨n, rfl⟩ := Int.eq_ofNat_of_zero_le h0
 exact of_decide_eq_true (List.all_eq_true.mp (List.all_eq_true.mp h n (List.mem_range.mpr (by omega))) m (List.mem_range.mpr hm))
/-- The coefficient i of the bytes t. -/
def sT (t : ByteArray) (i : Nat) : Int := cb (if i % 2 = 1 then bt t ((i / 2 : Nat) : Int) / 16 else bt t ((i / 2 : Nat) : Int))
def ej (t : ByteArray) : List Int := (List.range 256).map (sT t)
theorem j5 (t : ByteArray) : (ej t).length = 256 := by unfold ej; simp
theorem l5 (t : ByteArray) (i : Nat) (h : i < (ej t).length) : (ej t)[i] = sT t i := by
 simp only [ej, List.getElem_map, List.getElem_range]
theorem lJ (t : ByteArray) (ht : t.size = 128) : Ev (fun k => bz.l0 k ([] : List Int) t 0) (ej t) := by
 have hl := j5 t
 refine Ev.up (g := fun i k => bz.l0 k ((ej t).take i) t (i : Int)) 256 ?_ ?_ 0 (Nat.zero_le _)
 ·intro i hi hh
  have hv := l5 t i (by omega)
  rw [← gp (ej t) i (by omega), hv] at hh
  refine Ev.step (fun k => ?_) hh
  have e1 : wrap64 (Int.tdiv (i : Int) 2) = ((i / 2 : Nat) : Int) := by rw [Int.tdiv_eq_ediv_of_nonneg (by omega), w64 (by omega) (by omega)]; omega
  have hb := dU t ((i / 2 : Nat) : Int)
  have hlen : ((ej t).take i).length = i := by rw [List.length_take, hl]; omega
  have e2 : Int.tmod (i : Int) 2 = ((i % 2 : Nat) : Int) := by rw [Int.tmod_eq_emod_of_nonneg (by omega)]; omega
  unfold sT
  simp only [bz.l0, e1, e2]
  rw [Fa (by omega), Fa (by omega), Fa (by omega)]
  by_cases hp : i % 2 = 1
  ·rw [Fa (by omega), Fa hp, Fa (by omega), uu _ (by omega) (by omega), dI i (by omega)]
  ·rw [Ga (by omega), Ga hp, Fa (by omega), uf _ (by omega) (by omega), dI i (by omega)]
 ·refine Ev.step (f := fun _ => some (ej t)) (fun k => ?_) (Ev.now _)
  simp only [bz.l0]
  rw [Ga (by omega), List.take_of_length_le (by omega)]
theorem lD (t : ByteArray) (ht : t.size = 128) : Ev (fun k => bR.l0 k t (List.replicate 256 0) 256 0) (ej t) := by
 have hl := j5 t
 have e0 : (ej t).take 0 ++ List.replicate ((ej t).length - 0) 0 = List.replicate 256 0 := by rw [hl, List.take_zero, List.nil_append, Nat.sub_zero]
 rw [← e0]
 refine Ev.up (g := fun i k => bR.l0 k t ((ej t).take i ++ List.replicate ((ej t).length - i) 0) 256 (i : Int)) 256 ?_ ?_ 0 (Nat.zero_le _)
 ·intro i hi hh
  have hv := l5 t i (by omega)
  rw [← pn (ej t) 0 i (by omega), hv] at hh
  refine Ev.step (fun k => ?_) hh
  have e1 : wrap64 (Int.tdiv (i : Int) 2) = ((i / 2 : Nat) : Int) := by rw [Int.tdiv_eq_ediv_of_nonneg (by omega), w64 (by omega) (by omega)]; omega
  have hb := dU t ((i / 2 : Nat) : Int)
  have hlen : ((ej t).take i ++ List.replicate ((ej t).length - i) 0).length = 256 := by rw [List.length_append, List.length_take, List.length_replicate, hl]; omega
  have e2 : Int.tmod (i : Int) 2 = ((i % 2 : Nat) : Int) := by rw [Int.tmod_eq_emod_of_nonneg (by omega)]; omega
  have e3 := th (bt t ((i / 2 : Nat) : Int)) (i % 2) (by omega) (by omega) (by omega)
  have c1 : (i : Int) < 256 := by omega
  have c2 : (0 : Int) ≤ ((i / 2 : Nat) : Int) := by omega
  have c3 : ((i / 2 : Nat) : Int) < (t.size : Int) := by omega
  have c4 : 0 ≤ wrap64 (4 * ((i % 2 : Nat) : Int)) := by rw [w64 (by omega) (by omega)]; omega
  have c5 : (0 : Int) ≤ (i : Int) := by omega
  have c6 : (i : Int) < (((ej t).take i ++ List.replicate ((ej t).length - i) 0).length : Int) := by rw [hlen]; omega
  have c7 := dI i (by omega)
  unfold sT
  simp only [bR.l0, e1, e2]
  rw [Fa c1, Fa c2, Fa c3, Fa c4, e3, Option.bind_some, Fa c5, Fa c6, c7, Int.toNat_natCast]
 ·refine Ev.step (f := fun _ => some (ej t)) (fun k => ?_) (Ev.now _)
  simp only [bR.l0]
  rw [Ga (by omega), List.take_of_length_le (by omega), hl, Nat.sub_self, List.replicate_zero, List.append_nil]
def gP (s : ByteArray) (n : Int) : List Int := ej (mB (s ++ kw n) 128)
theorem pz (s : ByteArray) (n : Int) : (gP s n).length = 256 := j5 _
theorem mC (s : ByteArray) : (mB s 128).size = 128 := by
 unfold mB
 rw [ByteArray.size_extract, ix]
 omega
theorem dS (s : ByteArray) (n : Int) (hs : s.size ≤ 1048576) : Ev (fun k => bz.f k s n) (gP s n) := by
 unfold bz.f
 have h1 := gN n
 exact Ev.then (kL n) (Ev.pos (by omega) (Ev.bind (m6 _ (by rw [ByteArray.size_append]; omega)) (lJ _ (mC _))))
theorem jL (s : ByteArray) (n : Int) (hs : s.size ≤ 1048576) : Ev (fun k => bR.f k s n) (gP s n) := by
 unfold bR.f
 have h1 := gN n
 refine Ev.then (kU n) (Ev.pos (by omega) (Ev.bind (m0 _ (by rw [ByteArray.size_append]; omega)) (Ev.pos (by decide) (Ev.then (a := List.replicate 256 0) rfl ?_))))
 rw [List.length_replicate]
 exact lD _ (mC _)
/-- A number taken in, where it is small enough and there is room. -/
def put (l : List Int) (v : Int) : List Int := if v < 3329 ∧ l.length < 256 then l ++ [v] else l
theorem nZ (l : List Int) (v : Int) (h : l.length ≤ 256) : (put l v).length ≤ 256 := by
 unfold put
 split
 ·rw [List.length_append, List.length_singleton]; omega
 ·exact h
def qN (b0 b1 : Int) : Int := b0 + 256 * (b1 % 16)
def pg (b1 b2 : Int) : Int := b1 / 16 + 16 * b2
/-- Three bytes taken in. -/
def pl (l : List Int) (b0 b1 b2 : Int) : List Int := put (put l (qN b0 b1)) (pg b1 b2)
theorem qY (l : List Int) (b0 b1 b2 : Int) (h : l.length ≤ 256) : (pl l b0 b1 b2).length ≤ 256 := nZ _ _ (nZ _ _ h)
/-- The state of block m of the stream. -/
def ex (s : ByteArray) : Nat → ByteArray
 | 0 => s
 | m + 1 => fx (ex s m)
theorem jE (s : ByteArray) (hs : s.size = 200) : ∀ m, (ex s m).size = 200
 | 0 => hs
 | m + 1 => gZ _
/-- Byte q of the round i. -/
def rb (s : ByteArray) (i q : Nat) : Int := bt (ex s (i / 56)) ((3 * (i % 56) + q : Nat) : Int)
def gH (s : ByteArray) (l : List Int) (i : Nat) : List Int := pl l (rb s i 0) (rb s i 1) (rb s i 2)
theorem j6 (s : ByteArray) (l : List Int) (i : Nat) (h : l.length ≤ 256) : (gH s l i).length ≤ 256 := qY _ _ _ _ h
/-- What n rounds more make, i of them gone. -/
def goU (s : ByteArray) : Nat → List Int → Nat → List Int
 | 0, l, i => l
 | n + 1, l, i => if l.length < 256 then goU s n (gH s l i) (i + 1) else l
def uk (s : ByteArray) : List Int := goU s 4000 [] 0
theorem qB (s : ByteArray) : ∀ n l i, l.length ≤ 256 → (goU s n l i).length ≤ 256
 | 0, l, i, h => h
 | n + 1, l, i, h => by
  simp only [goU]
  split
  ·exact qB s n _ _ (j6 s l i h)
  ·exact h
def gJ (l : List Int) : List Int := l ++ List.replicate (256 - l.length) 0
theorem o8 (l : List Int) (h : l.length ≤ 256) : (gJ l).length = 256 := by
 unfold gJ
 rw [List.length_append, List.length_replicate]; omega
theorem rZ (s : ByteArray) (a n j : Nat) (h : a + n ≤ s.size) (hj : j < n) : bt (s.extract a (a + n)) (j : Int) = bt s ((a + j : Nat) : Int) := by
 have hs : j < (s.extract a (a + n)).size := by rw [iE s a n h]; exact hj
 rw [← cY (s.extract a (a + n)) (j : Int) (by simpa using hs), ← cY s ((a + j : Nat) : Int) (by simp; omega)]
 simp only [Int.toNat_natCast]
 rw [ByteArray.getElem_extract]
/-- The reference fills up with zeros. -/
theorem nl (l : List Int) (h : l.length ≤ 256) : Ev (fun k => aj.l1 k l) (gJ l) := by
 obtain ⟨d, hd⟩ : ∃ d, d = 256 - l.length := ⟨_, rfl⟩
 induction d generalizing l with
 | zero =>
  refine Ev.step (f := fun _ => some (gJ l)) (fun k => ?_) (Ev.now _)
  simp only [aj.l1]
  rw [Ga (by omega)]
  unfold gJ
  rw [← hd, List.replicate_zero, List.append_nil]
 | succ d ih =>
  have h1 := ih (l ++ [0]) (by rw [List.length_append, List.length_singleton]; omega) (by rw [List.length_append, List.length_singleton]; omega)
  have e : gJ (l ++ [0]) = gJ l := by
   unfold gJ
   rw [List.length_append, List.length_singleton, show 256 - l.length = 256 - (l.length + 1) + 1 by omega, List.replicate_succ, List.append_assoc]
   rfl
  rw [e] at h1
  refine Ev.step (fun k => ?_) h1
  simp only [aj.l1]
  rw [Fa (by omega), Fa (by omega)]
theorem oL (b0 b1 : Int) (h0 : 0 ≤ b0 ∧ b0 ≤ 255) (h1 : 0 ≤ b1 ∧ b1 ≤ 255) : wrap64 ((wrap64 b0) + (wrap64 (256 * (Int.tmod (wrap64 b1) 16)))) = qN b0 b1 := by
 have e0 : wrap64 b0 = b0 := w64 (by omega) (by omega)
 have e1 : wrap64 b1 = b1 := w64 (by omega) (by omega)
 rw [e0, e1, Int.tmod_eq_emod_of_nonneg h1.1]
 have e2 : wrap64 (256 * (b1 % 16)) = 256 * (b1 % 16) := w64 (by omega) (by omega)
 rw [e2]
 exact w64 (by omega) (by omega)
theorem nJ (b1 b2 : Int) (h1 : 0 ≤ b1 ∧ b1 ≤ 255) (h2 : 0 ≤ b2 ∧ b2 ≤ 255) : wrap64 ((wrap64 (Int.tdiv (wrap64 b1) 16)) + (wrap64 (16 * (wrap64 b2)))) = pg b1 b2 := by
 have e0 : wrap64 b2 = b2 := w64 (by omega) (by omega)
 have e1 : wrap64 b1 = b1 := w64 (by omega) (by omega)
 rw [e0, e1, Int.tdiv_eq_ediv_of_nonneg h1.1]
 have e2 : wrap64 (16 * b2) = 16 * b2 := w64 (by omega) (by omega)
 have e3 : wrap64 (b1 / 16) = b1 / 16 := w64 (by omega) (by omega)
 rw [e2, e3]
 exact w64 (by omega) (by omega)
theorem rJ (b0 b1 : Int) (h0 : 0 ≤ b0 ∧ b0 ≤ 255) (h1 : 0 ≤ b1 ∧ b1 ≤ 255) : wrap64 ((wrap64 b0) + (wrap64 ((Int.tmod (wrap64 b1) 16) * 256))) = qN b0 b1 := by
 rw [← oL b0 b1 h0 h1, Int.mul_comm]
theorem nN (l : List Int) (v : Int) (h1 : v < 3329) (h2 : l.length < 256) : put l v = l ++ [v] := Fa ⟨h1, h2⟩
theorem jF (l : List Int) (v : Int) (h : ¬ (v < 3329 ∧ l.length < 256)) : put l v = l := Ga h
/-- Where the reference stands ahead of round i. -/
def StS (s : ByteArray) (i : Nat) (x9 str : ByteArray) (at_ : Int) : Prop :=
 (i % 56 ≠ 0 ∧ x9 = (ex s (i / 56)).extract 0 168 ∧ str = ex s (i / 56) ∧ at_ = 168) ∨ (i = 0 ∧ str = s ∧ at_ = 0) ∨ (i % 56 = 0 ∧ 0 < i ∧ str = ex s (i / 56 - 1) ∧ at_ = 168)
theorem StS.next (s : ByteArray) (i : Nat) : StS s (i + 1) ((ex s (i / 56)).extract 0 168) (ex s (i / 56)) 168 := by
 unfold StS
 by_cases h : (i + 1) % 56 = 0
 ·exact Or.inr (Or.inr ⟨h, by omega, by rw [show (i + 1) / 56 - 1 = i / 56 by omega], rfl⟩)
 ·exact Or.inl ⟨h, by rw [show (i + 1) / 56 = i / 56 by omega], by rw [show (i + 1) / 56 = i / 56 by omega], rfl⟩
theorem qa (k : Nat) (s : ByteArray) (hs : s.size = 200) (l : List Int) (hl : l.length < 256) (i : Nat) (hi : i < 4000) : aj.j2 (k + 1) l ((ex s (i / 56)).extract 0 168) (i : Int) ((3 * (i % 56) : Nat) : Int) (ex s (i / 56)) 168 = aj.l0 k (gH s l i) ((ex s (i / 56)).extract 0 168) ((i + 1 : Nat) : Int) (ex s (i / 56)) 168 := by
 have hB := jE s hs (i / 56)
 have hz : ((ex s (i / 56)).extract 0 168).size = 168 := by rw [ByteArray.size_extract]; omega
 have w1 : wrap64 (((3 * (i % 56) : Nat) : Int) + 1) = ((3 * (i % 56) + 1 : Nat) : Int) := by rw [w64 (by omega) (by omega)]; rfl
 have w2 : wrap64 (((3 * (i % 56) : Nat) : Int) + 2) = ((3 * (i % 56) + 2 : Nat) : Int) := by rw [w64 (by omega) (by omega)]; rfl
 have w3 := dI i (by omega)
 have c1 : (0 : Int) ≤ ((3 * (i % 56) : Nat) : Int) := by omega
 have c2 : ((3 * (i % 56) : Nat) : Int) < (((ex s (i / 56)).extract 0 168).size : Int) := by rw [hz]; omega
 have c3 : (0 : Int) ≤ ((3 * (i % 56) + 1 : Nat) : Int) := by omega
 have c4 : ((3 * (i % 56) + 1 : Nat) : Int) < (((ex s (i / 56)).extract 0 168).size : Int) := by rw [hz]; omega
 have c5 : (0 : Int) ≤ ((3 * (i % 56) + 2 : Nat) : Int) := by omega
 have c6 : ((3 * (i % 56) + 2 : Nat) : Int) < (((ex s (i / 56)).extract 0 168).size : Int) := by rw [hz]; omega
 have c7 : l.length < 17592186044416 := by omega
 have c8 : (l.length : Int) < 256 := by omega
 have hb : ∀ q, q < 3 → bt ((ex s (i / 56)).extract 0 168) ((3 * (i % 56) + q : Nat) : Int) = rb s i q := by
  intro q hq
  have := rZ (ex s (i / 56)) 0 168 (3 * (i % 56) + q) (by omega) (by omega)
  rw [Nat.zero_add, Nat.zero_add] at this
  exact this
 have r0 : 0 ≤ rb s i 0 ∧ rb s i 0 ≤ 255 := g7 _ _
 have r1 : 0 ≤ rb s i 1 ∧ rb s i 1 ≤ 255 := g7 _ _
 have r2 : 0 ≤ rb s i 2 ∧ rb s i 2 ≤ 255 := g7 _ _
 have e0 : bt ((ex s (i / 56)).extract 0 168) ((3 * (i % 56) : Nat) : Int) = rb s i 0 := hb 0 (by decide)
 have e1 := hb 1 (by decide)
 have e2 := hb 2 (by decide)
 simp only [aj.j2, w1, w2, w3, e0, e1, e2]
 rw [Fa c1, Fa c2, Fa c3, Fa c4, Fa c5, Fa c6, oL _ _ r0 r1, nJ _ _ r1 r2]
 clear e0 e1 e2 r0 r1 r2 hb w1 w2 w3 c1 c2 c3 c4 c5 c6 hz hB
 unfold gH pl
 generalize qN (rb s i 0) (rb s i 1) = v
 generalize pg (rb s i 1) (rb s i 2) = u
 by_cases hv : v < 3329
 ·rw [Fa hv, Fa c7, nN l v hv hl, Option.bind_some]
  by_cases hu : u < 3329
  ·rw [Fa hu]
   by_cases hq : (l ++ [v]).length < 256
   ·rw [Fa (by omega), Fa (by omega), nN _ u hu hq]
   ·rw [Ga (by omega), jF _ u (by omega)]
  ·rw [Ga hu, jF _ u (by omega)]
 ·rw [Ga hv, jF l v (by omega)]
  by_cases hu : u < 3329
  ·rw [Fa hu, Fa c8, Fa c7, nN _ u hu hl]
  ·rw [Ga hu, jF _ u (by omega)]
theorem qc (s : ByteArray) (hs : s.size = 200) (l : List Int) (hl : l.length < 256) (i : Nat) (hi : i < 4000) (x9 str : ByteArray) (a : Int) (h : StS s i x9 str a) (r : List Int)
  (hr : Ev (fun k => aj.l0 k (gH s l i) ((ex s (i / 56)).extract 0 168) ((i + 1 : Nat) : Int) (ex s (i / 56)) 168) r) : Ev (fun k => aj.j1 k l x9 (i : Int) true str a) r := by
 have e1 : wrap64 (Int.tmod (i : Int) 56 * 3) = ((3 * (i % 56) : Nat) : Int) := by
  rw [Int.tmod_eq_emod_of_nonneg (by omega), w64 (by omega) (by omega)]; omega
 have h3 : Ev (fun k => aj.j2 k l ((ex s (i / 56)).extract 0 168) (i : Int) ((3 * (i % 56) : Nat) : Int) (ex s (i / 56)) 168) r := Ev.step (fun k => qa k s hs l hl i hi) hr
 rcases h with ⟨h1, rfl, rfl, rfl⟩ | h
 ·refine Ev.step (fun k => ?_) h3
  simp only [aj.j1, e1]
  rw [Fa trivial, Ga (by omega)]
 ·have hz : i % 56 = 0 := by omega
  have ht : Ev (fun k => aD.f k str a 168) (ex s (i / 56), 168, (ex s (i / 56)).extract 0 168) := by
   rcases h with ⟨rfl, rfl, rfl⟩ | ⟨_, hp, rfl, rfl⟩
   ·exact kt str 0 168 hs (by decide) (by decide)
   ·have := m5 (ex s (i / 56 - 1)) 168 (jE s hs _) (by decide) (by decide)
    have e : fx (ex s (i / 56 - 1)) = ex s (i / 56) := by
     obtain ⟨m, hm⟩ : ∃ m, i / 56 = m + 1 := ⟨i / 56 - 1, by omega⟩
     rw [hm]; rfl
    rw [e] at this
    exact this
  refine Ev.step (f := fun k => (aD.f k str a 168).bind fun bt249 => aj.j2 k l bt249.2.2 (i : Int) ((3 * (i % 56) : Nat) : Int) bt249.1 bt249.2.1) (fun k => ?_) (Ev.bind ht h3)
  simp only [aj.j1, e1]
  rw [Fa trivial, Fa (by omega)]
theorem lp (s : ByteArray) (hs : s.size = 200) : ∀ n l i x9 str a, n + i = 4000 → l.length ≤ 256 → StS s i x9 str a → Ev (fun k => aj.l0 k l x9 (i : Int) str a) (gJ (goU s n l i))
 | 0, l, i, x9, str, a, hn, hl, h => by
  refine Ev.step (f := fun k => aj.j1 k l x9 (i : Int) false str a) (fun k => ?_) (Ev.step (fun k => ?_) (nl l hl))
  ·simp only [aj.l0]
   rw [Ga (by omega)]
  ·simp only [aj.j1]
   rw [Ga (by decide)]
 | n + 1, l, i, x9, str, a, hn, hl, h => by
  simp only [goU]
  by_cases hq : l.length < 256
  ·rw [Fa hq]
   have ih := lp s hs n (gH s l i) (i + 1) _ _ 168 (by omega) (j6 s l i hl) (StS.next s i)
   refine Ev.step (fun k => ?_) (qc s hs l hq i (by omega) x9 str a h _ ih)
   simp only [aj.l0]
   rw [Fa (by omega), ya (by omega)]
  ·rw [Ga hq]
   refine Ev.step (f := fun k => aj.j1 k l x9 (i : Int) false str a) (fun k => ?_) (Ev.step (fun k => ?_) (nl l hl))
   ·simp only [aj.l0]
    rw [Fa (by omega), za (by omega)]
   ·simp only [aj.j1]
    rw [Ga (by decide)]
/-- Where the program stands ahead of round i. -/
def StI (s : ByteArray) (i : Nat) (str : ByteArray) (at_ : Int) : Prop :=
 (i % 56 ≠ 0 ∧ str = ex s (i / 56) ∧ at_ = ((3 * (i % 56) : Nat) : Int)) ∨ (i = 0 ∧ str = s ∧ at_ = 0) ∨ (i % 56 = 0 ∧ 0 < i ∧ str = ex s (i / 56 - 1) ∧ at_ = 168)
theorem StI.next (s : ByteArray) (i : Nat) : StI s (i + 1) (ex s (i / 56)) ((3 * (i % 56) + 3 : Nat) : Int) := by
 unfold StI
 by_cases h : (i + 1) % 56 = 0
 ·exact Or.inr (Or.inr ⟨h, by omega, by rw [show (i + 1) / 56 - 1 = i / 56 by omega], by omega⟩)
 ·exact Or.inl ⟨h, by rw [show (i + 1) / 56 = i / 56 by omega], by omega⟩
theorem sb (l : List Int) (v : Int) (h : l.length < 256) : (gJ l).set l.length v = gJ (l ++ [v]) := by
 unfold gJ
 rw [List.set_append_right _ _ (Ca _), Nat.sub_self, List.length_append, List.length_singleton, show 256 - l.length = 256 - (l.length + 1) + 1 by omega, List.replicate_succ, List.set_cons_zero, List.append_assoc]
 rfl
theorem pj (l y : List Int) (hl : l.length ≤ 256) (v : Int) (i : Int) (j : Nat) (hj : j < 2) (hy : y.length = 2) (hv : rd y (j : Int) = v) (str : ByteArray) (a : Int) (r : List Int)
  (h : Ev (fun k => ar.l1 k (gJ (put l v)) ((put l v).length : Int) i y 2 ((j + 1 : Nat) : Int) str a) r) : Ev (fun k => ar.l1 k (gJ l) (l.length : Int) i y 2 (j : Int) str a) r := by
 refine Ev.step (fun k => ?_) h
 have c1 : (j : Int) < 2 := by omega
 have c2 : (0 : Int) ≤ (j : Int) := by omega
 have c3 : (j : Int) < (y.length : Int) := by omega
 have w1 := dI j (by omega)
 have w2 := dI l.length (by omega)
 have hf := o8 l hl
 simp only [ar.l1, hv, w1, w2]
 rw [Fa c1, Fa c2, Fa c3]
 by_cases h1 : v < 3329
 ·rw [Fa h1]
  by_cases h2 : l.length < 256
  ·rw [Fa (by omega), Fa (by omega), Fa (by omega), Int.toNat_natCast, nN l v h1 h2, sb l v h2, List.length_append, List.length_singleton]
  ·rw [Ga (by omega), jF l v (by omega)]
 ·rw [Ga h1, jF l v (by omega)]
theorem pO (s : ByteArray) (hs : s.size = 200) (l : List Int) (hl : l.length < 256) (i : Nat) (hi : i < 4000) (str : ByteArray) (a : Int) (h : StI s i str a) (r : List Int)
  (hr : Ev (fun k => ar.l0 k (gJ (gH s l i)) ((gH s l i).length : Int) ((i + 1 : Nat) : Int) (ex s (i / 56)) ((3 * (i % 56) + 3 : Nat) : Int)) r) : Ev (fun k => ar.j1 k (gJ l) (l.length : Int) (i : Int) true str a) r := by
 have hB := jE s hs (i / 56)
 have ht : Ev (fun k => aq.f k str a 3) (ex s (i / 56), ((3 * (i % 56) + 3 : Nat) : Int), (ex s (i / 56)).extract (3 * (i % 56)) (3 * (i % 56) + 3)) := by
  rcases h with ⟨h1, rfl, rfl⟩ | ⟨rfl, rfl, rfl⟩ | ⟨hz, hp, rfl, rfl⟩
  ·exact iU _ (3 * (i % 56)) 3 hB (by decide) (by omega)
  ·exact iU str 0 3 hs (by decide) (by decide)
  ·have := mW (ex s (i / 56 - 1)) 3 (jE s hs _) (by decide) (by decide)
   have e : fx (ex s (i / 56 - 1)) = ex s (i / 56) := by
    obtain ⟨m, hm⟩ : ∃ m, i / 56 = m + 1 := ⟨i / 56 - 1, by omega⟩
    rw [hm]; rfl
   rw [e] at this
   rw [hz]
   exact this
 have hz := iE (ex s (i / 56)) (3 * (i % 56)) 3 (by omega)
 have hb : ∀ q : Nat, q < 3 → bt ((ex s (i / 56)).extract (3 * (i % 56)) (3 * (i % 56) + 3)) (q : Int) = rb s i q := fun q hq => rZ (ex s (i / 56)) (3 * (i % 56)) 3 q (by omega) hq
 have z0 : (0 : Int) < (((ex s (i / 56)).extract (3 * (i % 56)) (3 * (i % 56) + 3)).size : Int) := by rw [hz]; decide
 have z1 : (1 : Int) < (((ex s (i / 56)).extract (3 * (i % 56)) (3 * (i % 56) + 3)).size : Int) := by rw [hz]; decide
 have z2 : (2 : Int) < (((ex s (i / 56)).extract (3 * (i % 56)) (3 * (i % 56) + 3)).size : Int) := by rw [hz]; decide
 have w3 := dI i (by omega)
 have r0 : 0 ≤ rb s i 0 ∧ rb s i 0 ≤ 255 := g7 _ _
 have r1 : 0 ≤ rb s i 1 ∧ rb s i 1 ≤ 255 := g7 _ _
 have r2 : 0 ≤ rb s i 2 ∧ rb s i 2 ≤ 255 := g7 _ _
 have e0 : bt ((ex s (i / 56)).extract (3 * (i % 56)) (3 * (i % 56) + 3)) 0 = rb s i 0 := hb 0 (by decide)
 have e1 : bt ((ex s (i / 56)).extract (3 * (i % 56)) (3 * (i % 56) + 3)) 1 = rb s i 1 := hb 1 (by decide)
 have e2 : bt ((ex s (i / 56)).extract (3 * (i % 56)) (3 * (i % 56) + 3)) 2 = rb s i 2 := hb 2 (by decide)
 generalize hE : (ex s (i / 56)).extract (3 * (i % 56)) (3 * (i % 56) + 3) = E at ht hz e0 e1 e2 z0 z1 z2
 refine Ev.step (f := fun k => (aq.f k str a 3).bind fun bt273 => (if 0 < (bt273.2.2.size : Int) then (if 1 < (bt273.2.2.size : Int) then (if 2 < (bt273.2.2.size : Int) then ((some (([wrap64 ((wrap64 (bt bt273.2.2 0)) + (wrap64 ((Int.tmod (wrap64 (bt bt273.2.2 1)) 16) * 256))), wrap64 ((wrap64 (Int.tdiv (wrap64 (bt bt273.2.2 1)) 16)) + (wrap64 (16 * (wrap64 (bt bt273.2.2 2)))))] : List Int) : List Int)).bind fun y277 => (ar.l1 k (gJ l) (l.length : Int) (i : Int) y277 (y277.length : Int) 0 bt273.1 bt273.2.1)) else (none)) else (none)) else (none))) (fun k => ?_) (Ev.bind ht ?_)
 ·simp only [ar.j1]
  rw [Fa trivial]
 ·refine Ev.pos z0 (Ev.pos z1 (Ev.pos z2 ?_))
  simp only [Option.bind_some, e0, e1, e2, rJ _ _ r0 r1, nJ _ _ r1 r2]
  clear e0 e1 e2 r0 r1 r2 hb hz z0 z1 z2 ht
  unfold gH pl at hr
  generalize qN (rb s i 0) (rb s i 1) = v at hr ⊢
  generalize pg (rb s i 1) (rb s i 2) = u at hr ⊢
  refine pj l [v, u] (by omega) v (i : Int) 0 (by decide) rfl rfl _ _ r ?_
  refine pj (put l v) [v, u] (nZ _ _ (by omega)) u (i : Int) 1 (by decide) rfl rfl _ _ r ?_
  refine Ev.step (fun k => ?_) hr
  simp only [ar.l1]
  rw [Ga (by decide), w3]
theorem kY (s : ByteArray) (hs : s.size = 200) : ∀ n l i str a, n + i = 4000 → l.length ≤ 256 → StI s i str a → Ev (fun k => ar.l0 k (gJ l) (l.length : Int) (i : Int) str a) (gJ (goU s n l i))
 | 0, l, i, str, a, hn, hl, h => by
  refine Ev.step (f := fun k => ar.j1 k (gJ l) (l.length : Int) (i : Int) false str a) (fun k => ?_) (Ev.step (f := fun _ => some (gJ l)) (fun k => ?_) (Ev.now _))
  ·simp only [ar.l0]
   rw [Ga (by omega)]
  ·simp only [ar.j1]
   rw [Ga (by decide)]
 | n + 1, l, i, str, a, hn, hl, h => by
  simp only [goU]
  by_cases hq : l.length < 256
  ·rw [Fa hq]
   have ih := kY s hs n (gH s l i) (i + 1) _ _ (by omega) (j6 s l i hl) (StI.next s i)
   refine Ev.step (fun k => ?_) (pO s hs l hq i (by omega) str a h _ ih)
   simp only [ar.l0]
   rw [Fa (by omega), ya (by omega)]
  ·rw [Ga hq]
   refine Ev.step (f := fun k => ar.j1 k (gJ l) (l.length : Int) (i : Int) false str a) (fun k => ?_) (Ev.step (f := fun _ => some (gJ l)) (fun k => ?_) (Ev.now _))
   ·simp only [ar.l0]
    rw [Fa (by omega), za (by omega)]
   ·simp only [ar.j1]
    rw [Ga (by decide)]
def kT (s : ByteArray) (x y : Int) : List Int := gJ (uk (mH ((s ++ kw x) ++ kw y)))
theorem sk (s : ByteArray) : (uk s).length ≤ 256 := qB s 4000 [] 0 (by decide)
theorem ry (s : ByteArray) (x y : Int) : (kT s x y).length = 256 := o8 _ (sk _)
theorem lK (s : ByteArray) (x y : Int) (hs : s.size ≤ 1048576) : Ev (fun k => aj.f k s x y) (kT s x y) := by
 unfold aj.f
 have h1 := gN x
 have h2 := gN y
 have h3 : (s ++ kw x).size = s.size + 1 := by rw [ByteArray.size_append, h1]
 have h4 : ((s ++ kw x) ++ kw y).size = s.size + 2 := by rw [ByteArray.size_append, h2, h3]
 refine Ev.then (kL x) (Ev.pos (by omega) (Ev.then (kL y) (Ev.pos (by omega) (Ev.bind (lg _ (by omega)) ?_))))
 exact lp _ (ix _) 4000 [] 0 _ _ 0 rfl (by decide) (Or.inr (Or.inl ⟨rfl, rfl, rfl⟩))
theorem lL (s : ByteArray) (x y : Int) (hs : s.size ≤ 1048576) : Ev (fun k => ar.f k s x y) (kT s x y) := by
 unfold ar.f
 have h1 := gN x
 have h2 := gN y
 have h3 : (s ++ kw x).size = s.size + 1 := by rw [ByteArray.size_append, h1]
 have h4 : ((s ++ kw x) ++ kw y).size = s.size + 2 := by rw [ByteArray.size_append, h2, h3]
 refine Ev.then (kU x) (Ev.pos (by omega) (Ev.then (kU y) (Ev.pos (by omega) (Ev.bind (kZ _ (by omega)) (Ev.pos (by decide) ?_)))))
 exact kY _ (ix _) 4000 [] 0 _ 0 rfl (by decide) (Or.inr (Or.inl ⟨rfl, rfl, rfl⟩))
def qQ (l : List Int) : Prop := ∀ x ∈ l, 0 ≤ x ∧ x ≤ 3328
theorem tD (l : List Int) (v : Int) (hv : 0 ≤ v) (h : qQ l) : qQ (put l v) := by
 unfold put
 split
 ·rename_i hc
  intro x hx
  rw [List.mem_append, List.mem_singleton] at hx
  rcases hx with hx | hx
  ·exact h x hx
  ·rw [hx]; omega
 ·exact h
theorem rO (s : ByteArray) (l : List Int) (i : Nat) (h : qQ l) : qQ (gH s l i) := by
 have r0 : 0 ≤ rb s i 0 ∧ rb s i 0 ≤ 255 := g7 _ _
 have r1 : 0 ≤ rb s i 1 ∧ rb s i 1 ≤ 255 := g7 _ _
 have r2 : 0 ≤ rb s i 2 ∧ rb s i 2 ≤ 255 := g7 _ _
 unfold gH pl
 generalize rb s i 0 = a at r0 ⊢
 generalize rb s i 1 = b at r1 ⊢
 generalize rb s i 2 = c at r2 ⊢
 exact tD _ _ (by unfold pg; omega) (tD _ _ (by unfold qN; omega) h)
theorem tp (s : ByteArray) : ∀ n l i, qQ l → qQ (goU s n l i)
 | 0, l, i, h => h
 | n + 1, l, i, h => by
  simp only [goU]
  split
  ·exact tp s n _ _ (rO s l i h)
  ·exact h
theorem qA (s : ByteArray) (x y : Int) : bU (kT s x y) = true := by
 refine kD (ry s x y) ?_
 unfold kT gJ
 intro z hz
 rw [List.mem_append] at hz
 rcases hz with hz | hz
 ·exact tp _ 4000 [] 0 (fun x hx => absurd hx (by simp)) z hz
 ·rw [List.eq_of_mem_replicate hz]; decide
theorem uo (v : Int) : (0 ≤ cb v ∧ cb v ≤ 2) ∨ (3327 ≤ cb v ∧ cb v ≤ 3328) := by
 unfold cb
 rcases Int.emod_two_eq v with h1 | h1 <;> rcases Int.emod_two_eq (v / 2) with h2 | h2 <;> rcases Int.emod_two_eq (v / 4) with h3 | h3 <;> rcases Int.emod_two_eq (v / 8) with h4 | h4 <;> rw [h1, h2, h3, h4] <;> decide
theorem pS (t : ByteArray) {x : Int} (h : x ∈ ej t) : (0 ≤ x ∧ x ≤ 2) ∨ (3327 ≤ x ∧ x ≤ 3328) := by
 unfold ej at h
 obtain ⟨i, _, rfl⟩ := List.mem_map.mp h
 exact uo _
theorem kX (s : ByteArray) (n : Int) : bU (gP s n) = true :=
 kD (pz s n) fun x hx => by have := pS _ hx; omega
theorem oy (x : Int) : 0 ≤ Go.bits .and .i64 x 255 ∧ Go.bits .and .i64 x 255 ≤ 255 := by
 have h : ((BitVec.ofInt 64 x &&& BitVec.ofInt 64 255).toNat) ≤ 255 := by
  rw [BitVec.toNat_and]
  exact Nat.and_le_right
 show 0 ≤ IntKind.i64.wrap (((BitVec.ofInt 64 x &&& BitVec.ofInt 64 255).toNat : Nat) : Int) ∧ IntKind.i64.wrap (((BitVec.ofInt 64 x &&& BitVec.ofInt 64 255).toNat : Nat) : Int) ≤ 255
 rw [IntKind.wrap_i64]
 omega
/-- The place of a cursor. -/
def Cur (l : List Int) (i : Int) : Prop := 0 ≤ i ∧ i ≤ l.length ∧ l.length ≤ 1048576
theorem o0 (l : List Int) (hl : l.length ≤ 1048576) : ∃ h, Ev (fun k => bQ.f k l) (l, 0, h) ∧ Cur l 0 := by
 have key : ∀ d i : Nat, ∀ h : Int, l.length - i = d → i ≤ l.length → ∃ h', Ev (fun k => bQ.l0 k l h (i : Int)) (l, (0 : Int), h') := by
  intro d
  induction d with
  | zero =>
   intro i h hd hi
   refine ⟨h, Ev.step (f := fun _ => some (l, 0, h)) (fun k => ?_) (Ev.now _)⟩
   simp only [bQ.l0]
   rw [Ga (by omega)]
  | succ d ih =>
   intro i h hd hi
   by_cases h4 : i < 4000
   ·obtain ⟨h', e⟩ := ih (i + 1) (Go.bits .and .i64 (wrap64 ((wrap64 ((wrap64 (h * 131)) + (wrap64 (rd l i)))) + 7)) 1073741823) (by omega) (by omega)
    refine ⟨h', Ev.step (fun k => ?_) e⟩
    simp only [bQ.l0]
    rw [Fa (by omega), Fa (by omega), Fa (by omega), dI i (by omega)]
   ·refine ⟨h, Ev.step (f := fun _ => some (l, 0, h)) (fun k => ?_) (Ev.now _)⟩
    simp only [bQ.l0]
    rw [Fa (by omega), Ga (by omega)]
 obtain ⟨h', e⟩ := key l.length 0 (wrap64 (27401 + (l.length : Int))) (by omega) (by omega)
 exact ⟨h', e, by unfold Cur; omega⟩
theorem gy (l : List Int) (i h : Int) (hc : Cur l i) : ∃ x i' h', ck.f l i h = some (x, i', h') ∧ 0 ≤ x ∧ x ≤ 255 ∧ Cur l i' := by
 obtain ⟨h0, h1, h2⟩ := hc
 unfold ck.f
 by_cases hi : i < l.length
 ·rw [Fa hi, Fa h0, w64 (x := i + 1) (by omega) (by omega)]
  exact ⟨_, _, _, rfl, (oy _).1, (oy _).2, by unfold Cur; omega⟩
 ·rw [Ga hi]
  exact ⟨_, _, _, rfl, (oy _).1, (oy _).2, by unfold Cur; omega⟩
theorem iT {x n : Int} (h0 : 0 ≤ x) (hn : 0 < n) : 0 ≤ Int.tmod x n ∧ Int.tmod x n < n := by
 rw [Int.tmod_eq_emod_of_nonneg h0]
 exact ⟨Int.emod_nonneg _ (by omega), Int.emod_lt_of_pos _ hn⟩
theorem jT (l : List Int) (i h n : Int) (hc : Cur l i) (hn : 0 < n) : ∃ x i' h', dj.f l i h n = some (x, i', h') ∧ 0 ≤ x ∧ x < n ∧ Cur l i' := by
 unfold dj.f
 rw [Ga (by omega)]
 by_cases h256 : n ≤ 256
 ·obtain ⟨x, i', h', e, hx0, hx1, hc'⟩ := gy l i h hc
  rw [Fa h256, e]
  simp only [Option.bind_some]
  rw [Ga (by omega)]
  exact ⟨_, _, _, rfl, (iT hx0 hn).1, (iT hx0 hn).2, hc'⟩
 ·obtain ⟨a, i1, h1, e1, ha0, ha1, hc1⟩ := gy l i h hc
  obtain ⟨b, i2, h2, e2, hb0, hb1, hc2⟩ := gy l i1 h1 hc1
  obtain ⟨c, i3, h3, e3, hc0, hc1', hc3⟩ := gy l i2 h2 hc2
  obtain ⟨d, i4, h4, e4, hd0, hd1, hc4⟩ := gy l i3 h3 hc3
  rw [Ga h256, e1]
  simp only [Option.bind_some]
  rw [e2]
  simp only [Option.bind_some]
  rw [e3]
  simp only [Option.bind_some]
  rw [e4]
  simp only [Option.bind_some]
  rw [Ga (by omega)]
  have e : wrap64 ((wrap64 ((wrap64 ((wrap64 (a * 16777216)) + (wrap64 (b * 65536)))) + (wrap64 (c * 256)))) + d) = a * 16777216 + b * 65536 + c * 256 + d := by
   rw [w64 (x := a * 16777216) (by omega) (by omega), w64 (x := b * 65536) (by omega) (by omega), w64 (x := c * 256) (by omega) (by omega), w64 (x := a * 16777216 + b * 65536) (by omega) (by omega), w64 (x := a * 16777216 + b * 65536 + c * 256) (by omega) (by omega), w64 (by omega) (by omega)]
  rw [e]
  have hx0 : 0 ≤ a * 16777216 + b * 65536 + c * 256 + d := by omega
  exact ⟨_, _, _, rfl, (iT hx0 hn).1, (iT hx0 hn).2, hc4⟩
/-- A drawn list of n numbers. -/
theorem pq (l : List Int) (hl : l.length ≤ 1048576) : ∃ ps, Ev (fun k => bw.f k l) ps ∧ ps.length = 12 ∧ ∀ x ∈ ps, 0 ≤ x ∧ x < 10000 := by
 have key : ∀ d n : Nat, ∀ (ps : List Int) (i h : Int), 12 - n = d → n ≤ 12 → Cur l i → ps.length = n → (∀ x ∈ ps, 0 ≤ x ∧ x < 10000) →
   ∃ qs, Ev (fun k => bw.l0 k ps (n : Int) l i h) qs ∧ qs.length = 12 ∧ ∀ x ∈ qs, 0 ≤ x ∧ x < 10000 := by
  intro d
  induction d with
  | zero =>
   intro n ps i h hd hn hc hp hx
   refine ⟨ps, Ev.step (f := fun _ => some ps) (fun k => ?_) (Ev.now _), by omega, hx⟩
   simp only [bw.l0]
   rw [Ga (by omega)]
  | succ d ih =>
   intro n ps i h hd hn hc hp hx
   obtain ⟨x, i', h', e, hx0, hx1, hc'⟩ := jT l i h 10000 hc (by omega)
   obtain ⟨qs, eq, hq, hqx⟩ := ih (n + 1) (ps ++ [x]) i' h' (by omega) (by omega) hc' (by simp [hp]) (by
    intro y hy
    rcases List.mem_append.mp hy with hy | hy
    ·exact hx y hy
    ·rw [List.mem_singleton] at hy; subst hy; exact ⟨hx0, hx1⟩)
   refine ⟨qs, Ev.step (fun k => ?_) eq, hq, hqx⟩
   simp only [bw.l0]
   rw [Fa (by omega), e]
   simp only [Option.bind_some]
   rw [Fa (by omega), dI n (by omega)]
 obtain ⟨h, e, hc⟩ := o0 l hl
 obtain ⟨x, i', h', e2, _, _, hc'⟩ := gy l 0 h hc
 obtain ⟨qs, e3, hq⟩ := key 12 0 [] i' h' (by omega) (by omega) hc' rfl (fun x hx => absurd hx (by simp))
 refine ⟨qs, ?_, hq⟩
 unfold bw.f
 refine Ev.bind e (Ev.then e2 ?_)
 exact e3
theorem nn (l : List Int) (i h : Int) (n : Int) (hc : Cur l i) (hn : n ≤ 5000) : ∃ (t : ByteArray) (i' h' : Int), Ev (fun k => bk.f k l i h n) (t, i', h') ∧ t.size = n.toNat ∧ Cur l i' := by
 have key : ∀ d m : Nat, ∀ (ps : List Int) (i h : Int), n.toNat - m = d → m ≤ n.toNat → Cur l i → ps.length = m →
   ∃ (t : ByteArray) (i' h' : Int), Ev (fun k => bk.l0 k n ps (m : Int) l i h) (t, i', h') ∧ t.size = n.toNat ∧ Cur l i' := by
  intro d
  induction d with
  | zero =>
   intro m ps i h hd hm hc hp
   refine ⟨strOfNums ps, i, h, Ev.step (f := fun _ => some (strOfNums ps, i, h)) (fun k => ?_) (Ev.now _), by rw [strOfNums_size]; omega, hc⟩
   simp only [bk.l0]
   rw [Ga (by omega)]
  | succ d ih =>
   intro m ps i h hd hm hc hp
   obtain ⟨x, i1, h1, e1, _, _, hc1⟩ := gy l i h hc
   obtain ⟨t, i', h', e, ht, hc'⟩ := ih (m + 1) (ps ++ [x % 256]) i1 h1 (by omega) (by omega) hc1 (by simp [hp])
   have c1 : (m : Int) < n := by omega
   have c2 : ps.length < 140737488355328 := by omega
   refine ⟨t, i', h', Ev.step (fun k => ?_) e, ht, hc'⟩
   simp only [bk.l0]
   rw [Fa c1, e1, Option.bind_some, Fa c2, dI m (by omega)]
 obtain ⟨t, i', h', e, ht, hc'⟩ := key n.toNat 0 [] i h (by omega) (by omega) hc rfl
 refine ⟨t, i', h', ?_, ht, hc'⟩
 unfold bk.f
 refine Ev.neg (by omega) ?_
 refine Ev.step (fun k => ?_) e
 simp only [bk.j0]
 rfl
theorem ma (b : Nat) (l : List Int) (hf : l.all (gY b) = true) : dy (dX b l) = gK b (jf l) ∧ (dX b l).size = (l.length * b + 7) / 8 := by
 have hlt := lT b (jf l) (kv hf)
 rw [fV] at hlt
 have hsz : (dX b l).size = (l.length * b + 7) / 8 := by unfold dX; rw [strOfNums_size, fp]
 have h256 : gK b (jf l) < 256 ^ ((l.length * b + 7) / 8) := by
  refine Nat.lt_of_lt_of_le hlt ?_
  rw [gX]
  refine Nat.pow_le_pow_right (by decide) ?_
  rw [Nat.mul_comm b]
  omega
 refine ⟨?_, hsz⟩
 have h1 := jV (dX b l)
 have h2 := lX (dX b l)
 rw [hsz] at h1 h2
 exact ni h2 h256 h1
theorem oM (b : Int) (l : List Int) (h1 : 1 ≤ b) (h2 : b ≤ 12) (hl : l.length ≤ 1000) (hf : l.all (gY b.toNat) = true) : dY (dX b.toNat l) b (l.length : Int) = (l, true) := by
 obtain ⟨hn, hs⟩ := ma b.toNat l hf
 have hlt := lT b.toNat (jf l) (kv hf)
 rw [fV] at hlt
 unfold dY
 rw [Fa ⟨⟨h1, h2⟩, ⟨by omega, by omega⟩, by rw [hs, Int.toNat_natCast]⟩, hn, Int.toNat_natCast, Fa hlt]
 refine congrArg (·, true) ?_
 apply List.ext_getElem
 ·rw [fu]
 ·intro i ha hb
  rw [pZ, mG b.toNat (jf l) (kv hf) i (by rw [fV]; exact hb)]
  simp only [jf, List.getElem_map]
  have h3 := of_decide_eq_true (List.all_eq_true.mp hf l[i] (List.getElem_mem hb))
  omega
theorem jY (s : ByteArray) (i j : Nat) : (s.extract i j).data.toList = (s.data.toList.drop i).take (j - i) := by
 rw [ByteArray.data_extract, Array.toList_extract]
theorem m9 (s t : ByteArray) : (s ++ t).data.toList = s.data.toList ++ t.data.toList := by
 rw [ByteArray.data_append, Array.toList_append]
theorem pC (s : ByteArray) : s.data.toList.length = s.size := Array.length_toList
def W32 (x : Int) : Prop := 0 ≤ x ∧ x < 4294967296
theorem W32.mod (x : Int) : W32 (x % 4294967296) := by unfold W32; omega
theorem W32.xor (a b : Int) : W32 (Go.bits .xor .u32 a b) := by
 show W32 (IntKind.u32.wrap (((BitVec.ofInt 32 a ^^^ BitVec.ofInt 32 b).toNat : Nat) : Int))
 rw [IntKind.wrap_u32']; exact W32.mod _
theorem W32.or (a b : Int) : W32 (Go.bits .or .u32 a b) := by
 show W32 (IntKind.u32.wrap (((BitVec.ofInt 32 a ||| BitVec.ofInt 32 b).toNat : Nat) : Int))
 rw [IntKind.wrap_u32']; exact W32.mod _
theorem tj : ∀ n : Int, 0 ≤ n → n < 2 ^ 32 → IntKind.u32.wrap n = n := fun n h0 h1 => by rw [IntKind.wrap_u32']; omega
/-- Two words joined that share no bit. -/
theorem rp (i : Nat) (x y : Int) (hx : W32 x) (hi : x % 2 ^ i = 0) (hy : W32 y) (hyi : y < 2 ^ i) : Go.bits .or .u32 x y = x + y :=
 bits_join .u32 32 (by decide) tj i x y hx.1 hi (by have := hx.2; omega) hy.1 hyi (by have := hy.2; omega)
theorem uh (e : Int) (h : W32 e) : Go.bits .xor .u32 (if IntKind.u32.signed = true then -1 else IntKind.u32.max) e = 4294967295 - e := by
 obtain ⟨n, rfl⟩ := Int.eq_ofNat_of_zero_le h.1
 have hn : n < 4294967296 := by have := h.2; omega
 show IntKind.u32.wrap (((BitVec.ofInt 32 4294967295 ^^^ BitVec.ofInt 32 (n : Int)).toNat : Nat) : Int) = _
 have h1 : (BitVec.ofInt 32 4294967295 ^^^ BitVec.ofInt 32 (n : Int)).toNat = 4294967295 - n := by
  have e1 : BitVec.ofInt 32 4294967295 = BitVec.allOnes 32 := by decide
  rw [e1, BitVec.allOnes_xor, BitVec.toNat_not, BitVec.toNat_ofInt]
  omega
 rw [h1, IntKind.wrap_u32']
 omega
theorem t6 (x : Int) (n : Nat) (h1 : 1 ≤ n) (h2 : n ≤ 31) (h : W32 x) : rot x n = x / 2 ^ n + (x % 2 ^ n) * 2 ^ (32 - n) := by
 obtain ⟨A, hA⟩ : ∃ A : Int, A = 2 ^ n := ⟨_, rfl⟩
 obtain ⟨B, hB⟩ : ∃ B : Int, B = 2 ^ (32 - n) := ⟨_, rfl⟩
 have hA0 : 0 < A := by rw [hA]; exact Int.pow_pos (by decide)
 have hB0 : 0 < B := by rw [hB]; exact Int.pow_pos (by decide)
 have hAB : B * A = 4294967296 := by
  rw [hA, hB, ← Int.pow_add, show 32 - n + n = 32 by omega]; rfl
 have hl : shl .u32 x ((32 - n : Nat) : Int) = (x % A) * B := by
  unfold shl
  rw [Int.toNat_natCast, Nat.min_eq_left (by show 32 - n ≤ 32; omega), IntKind.wrap_u32', ← hB, ← hAB, Int.mul_comm x B, Int.mul_emod_mul_of_pos _ _ hB0, Int.mul_comm]
 have hr : shr .u32 x (n : Int) = x / A := by
  unfold shr
  rw [Int.toNat_natCast, Nat.min_eq_left (by show n ≤ 32; omega), ← hA]
 have hm0 := Int.emod_nonneg x (Int.ne_of_gt hA0)
 have hm1 := Int.emod_lt_of_pos x hA0
 have hd0 : 0 ≤ x / A := Int.ediv_nonneg h.1 (Int.le_of_lt hA0)
 have hd1 : x / A < B := Int.ediv_lt_of_lt_mul hA0 (by rw [hAB]; exact h.2)
 have hmb : (x % A) * B < 4294967296 := by
  have h3 : (x % A + 1) * B ≤ A * B := Int.mul_le_mul_of_nonneg_right (by omega) (Int.le_of_lt hB0)
  rw [Int.mul_comm A B, hAB, Int.add_mul, Int.one_mul] at h3
  omega
 have hB1 : B ≤ 4294967296 := by
  have h3 : B * 1 ≤ B * A := Int.mul_le_mul_of_nonneg_left (by omega) (Int.le_of_lt hB0)
  rw [hAB, Int.mul_one] at h3; exact h3
 unfold rot
 rw [hl, hr, ← hA, ← hB, rp (32 - n) _ _ ⟨Int.mul_nonneg hm0 (Int.le_of_lt hB0), hmb⟩ (by rw [← hB]; exact Int.mul_emod_left _ _) ⟨hd0, by omega⟩ (by rw [← hB]; exact hd1), Int.add_comm]
theorem un (x : Int) (n : Nat) : W32 (rot x n) := W32.or _ _
theorem gB (x : Int) (n : Nat) (a b : Int) (ha : a = 2 ^ n) (hb : b = 2 ^ (32 - n)) (h1 : 1 ≤ n) (h2 : n ≤ 31) (h : W32 x) : cV.f x a b = some (rot x n) := by
 have hA0 : 0 < a := by rw [ha]; exact Int.pow_pos (by decide)
 have hr := t6 x n h1 h2 h
 have hw := un x n
 rw [← ha, ← hb] at hr
 have hw1 := hw.1
 have hw2 := hw.2
 have hd0 : 0 ≤ x / a := Int.ediv_nonneg h.1 (Int.le_of_lt hA0)
 have hb0 : 0 ≤ b := by rw [hb]; exact Int.le_of_lt (Int.pow_pos (by decide))
 have hm0 : 0 ≤ x % a * b := Int.mul_nonneg (Int.emod_nonneg x (Int.ne_of_gt hA0)) hb0
 unfold cV.f
 rw [Ga (Int.ne_of_gt hA0), Int.tdiv_eq_ediv_of_nonneg h.1, Int.tmod_eq_emod_of_nonneg h.1]
 rw [hr] at hw1 hw2 ⊢
 congr 1
 rw [Int.emod_eq_of_lt hd0 (by omega), Int.emod_eq_of_lt hm0 (by omega), Int.emod_eq_of_lt hw1 hw2]
theorem nf (x : Int) (n m : Nat) (a b c : Int) (ha : a = 2 ^ n) (hb : b = 2 ^ m) (hc : c ≠ 0) (ha2 : (Int.tdiv 2147483648 a % 4294967296) * 2 % 4294967296 = 2 ^ (32 - n)) (hb2 : (Int.tdiv 2147483648 b % 4294967296) * 2 % 4294967296 = 2 ^ (32 - m)) (hn : 1 ≤ n ∧ n ≤ 31) (hm : 1 ≤ m ∧ m ≤ 31) (hcx : 0 < c) (h : W32 x) :
  de.f x a b c true = some (Go.bits .xor .u32 (Go.bits .xor .u32 (rot x n) (rot x m)) (x / c)) := by
 have ha0 : a ≠ 0 := by rw [ha]; exact Int.ne_of_gt (Int.pow_pos (by decide))
 have hb0 : b ≠ 0 := by rw [hb]; exact Int.ne_of_gt (Int.pow_pos (by decide))
 unfold de.f
 rw [Ga ha0, gB x n a _ ha ha2 hn.1 hn.2 h]
 simp only [Option.bind_some]
 rw [Ga hb0, gB x m b _ hb hb2 hm.1 hm.2 h]
 simp only [Option.bind_some]
 rw [Ga hc, Fa trivial, Int.tdiv_eq_ediv_of_nonneg h.1]
 have h1 : 0 ≤ x / c := Int.ediv_nonneg h.1 (Int.le_of_lt hcx)
 have h2 : x / c ≤ x := Int.ediv_le_self _ h.1
 rw [Int.emod_eq_of_lt h1 (by have := h.2; omega)]
theorem mL (x : Int) (n m q : Nat) (a b c : Int) (ha : a = 2 ^ n) (hb : b = 2 ^ m) (hc : c = 2 ^ q) (ha2 : (Int.tdiv 2147483648 a % 4294967296) * 2 % 4294967296 = 2 ^ (32 - n)) (hb2 : (Int.tdiv 2147483648 b % 4294967296) * 2 % 4294967296 = 2 ^ (32 - m)) (hc2 : (Int.tdiv 2147483648 c % 4294967296) * 2 % 4294967296 = 2 ^ (32 - q)) (hn : 1 ≤ n ∧ n ≤ 31) (hm : 1 ≤ m ∧ m ≤ 31) (hq : 1 ≤ q ∧ q ≤ 31) (h : W32 x) :
  de.f x a b c false = some (Go.bits .xor .u32 (Go.bits .xor .u32 (rot x n) (rot x m)) (rot x q)) := by
 have ha0 : a ≠ 0 := by rw [ha]; exact Int.ne_of_gt (Int.pow_pos (by decide))
 have hb0 : b ≠ 0 := by rw [hb]; exact Int.ne_of_gt (Int.pow_pos (by decide))
 have hc0 : c ≠ 0 := by rw [hc]; exact Int.ne_of_gt (Int.pow_pos (by decide))
 unfold de.f
 rw [Ga ha0, gB x n a _ ha ha2 hn.1 hn.2 h]
 simp only [Option.bind_some]
 rw [Ga hb0, gB x m b _ hb hb2 hm.1 hm.2 h]
 simp only [Option.bind_some]
 rw [Ga hc0, Ga (by decide), gB x q c _ hc hc2 hq.1 hq.2 h]
 simp only [Option.bind_some]
theorem uI (x : Int) (h : W32 x) : de.f x 131072 524288 1024 true = some (Go.bits .xor .u32 (Go.bits .xor .u32 (rot x 17) (rot x 19)) (x / 1024)) :=
 nf x 17 19 _ _ _ rfl rfl (by decide) rfl rfl (by decide) (by decide) (by decide) h
theorem uG (x : Int) (h : W32 x) : de.f x 128 262144 8 true = some (Go.bits .xor .u32 (Go.bits .xor .u32 (rot x 7) (rot x 18)) (x / 8)) :=
 nf x 7 18 _ _ _ rfl rfl (by decide) rfl rfl (by decide) (by decide) (by decide) h
theorem S_e (x : Int) (h : W32 x) : de.f x 64 2048 33554432 false = some (Go.bits .xor .u32 (Go.bits .xor .u32 (rot x 6) (rot x 11)) (rot x 25)) :=
 mL x 6 11 25 _ _ _ rfl rfl rfl rfl rfl rfl (by decide) (by decide) (by decide) h
theorem S_a (x : Int) (h : W32 x) : de.f x 4 8192 4194304 false = some (Go.bits .xor .u32 (Go.bits .xor .u32 (rot x 2) (rot x 13)) (rot x 22)) :=
 mL x 2 13 22 _ _ _ rfl rfl rfl rfl rfl rfl (by decide) (by decide) (by decide) h
/-! the words of a block -/
def iH (s : ByteArray) (i : Nat) : Int := bt s ((4 * i : Nat) : Int) * 16777216 + bt s ((4 * i + 1 : Nat) : Int) * 65536 + bt s ((4 * i + 2 : Nat) : Int) * 256 + bt s ((4 * i + 3 : Nat) : Int)
theorem tM (s : ByteArray) (i : Nat) : W32 (iH s i) := by
 have h0 := dU s ((4 * i : Nat) : Int)
 have h1 := dU s ((4 * i + 1 : Nat) : Int)
 have h2 := dU s ((4 * i + 2 : Nat) : Int)
 have h3 := dU s ((4 * i + 3 : Nat) : Int)
 unfold iH W32
 omega
def gV (s : ByteArray) (n : Nat) : List Int := (List.range n).map (iH s)
theorem fW (s : ByteArray) (n : Nat) : (gV s n).length = n := by simp [gV]
theorem mP (s : ByteArray) (n : Nat) : gV s (n + 1) = gV s n ++ [iH s n] := by simp [gV, List.range_succ]
theorem sI (s : ByteArray) (n : Nat) : ∀ x ∈ gV s n, W32 x := by
 intro x hx
 obtain ⟨i, _, rfl⟩ := List.mem_map.mp hx
 exact tM s i
theorem lM (s : ByteArray) (i : Nat) (h : 4 * i + 4 ≤ s.size) (hs : s.size ≤ 4611686018427387904) : eL.f s ((4 * i : Nat) : Int) = some (iH s i) := by
 have e1 : wrap64 (((4 * i : Nat) : Int) + 1) = ((4 * i + 1 : Nat) : Int) := by rw [w64 (by omega) (by omega)]; rfl
 have e2 : wrap64 (((4 * i : Nat) : Int) + 2) = ((4 * i + 2 : Nat) : Int) := by rw [w64 (by omega) (by omega)]; rfl
 have e3 : wrap64 (((4 * i : Nat) : Int) + 3) = ((4 * i + 3 : Nat) : Int) := by rw [w64 (by omega) (by omega)]; rfl
 have h0 := dU s ((4 * i : Nat) : Int)
 have h1 := dU s ((4 * i + 1 : Nat) : Int)
 have h2 := dU s ((4 * i + 2 : Nat) : Int)
 have h3 := dU s ((4 * i + 3 : Nat) : Int)
 unfold eL.f
 rw [e1, e2, e3, Fa (by omega), Fa (by omega), Fa (by omega), Fa (by omega), Fa (by omega), Fa (by omega), Fa (by omega), Fa (by omega)]
 unfold iH
 congr 1
 generalize bt s ((4 * i : Nat) : Int) = b0 at *
 generalize bt s ((4 * i + 1 : Nat) : Int) = b1 at *
 generalize bt s ((4 * i + 2 : Nat) : Int) = b2 at *
 generalize bt s ((4 * i + 3 : Nat) : Int) = b3 at *
 clear e1 e2 e3
 omega
theorem iC (s : ByteArray) (n : Nat) (h : s.size = 4 * n) (hn : n ≤ 1000000) : Ev (fun k => bm.f k s) (gV s n) := by
 refine Ev.up (g := fun i k => bm.l0 k s (gV s i) ((4 * i : Nat) : Int)) n ?_ ?_ 0 (Nat.zero_le _)
 ·intro i hi hh
  refine Ev.step (fun k => ?_) hh
  simp only [bm.l0]
  have e4 : wrap64 (((4 * i : Nat) : Int) + 4) = ((4 * (i + 1) : Nat) : Int) := by rw [w64 (by omega) (by omega)]; omega
  rw [e4, Fa (by omega), lM s i (by omega) (by omega)]
  simp only [Option.bind_some]
  rw [Fa (by rw [fW]; omega), mP]
 ·refine Ev.step (f := fun _ => some (gV s n)) (fun k => ?_) (Ev.now _)
  simp only [bm.l0]
  have e4 : wrap64 (((4 * n : Nat) : Int) + 4) = ((4 * (n + 1) : Nat) : Int) := by rw [w64 (by omega) (by omega)]; omega
  rw [e4, Ga (by omega)]
end Go.Proofs.YtmiackbomcjboaaGreatDoor.Pure
